/- The contract of Encode. It states its conditions. -/
import Derived.Test.YtkhdeoihjnpnaaaOps5
import Derived.Test.YtkhdeoihjnpnaaaWireText
import Derived.BigQuiet
namespace Go.Proofs.Ytkhdeoihjnpnaaa
open Go.RowKit Wire
set_option linter.unusedVariables false

theorem own_of_blk {w : World} {g base : Nat} (l : List UInt8) (h : Blk w g 5 (l.map b8).toArray) (hb : base ≤ g) (hl : l.length ≤ 1000) : w.ownsRow base 5 1 (.slice (some ⟨g, 0, none⟩) l.length l.length) l.length (l.map b8) :=
  ⟨by simp, .inr ⟨_, _, _, rfl, hb, h, Nat.le_refl _, by unfold maxLen; omega, by simp, by rw [Nat.mul_one]; exact List.take_of_length_le (by simp)⟩⟩
/-- An operand's bytes. -/
def encU (u : Use) (v : Int) : List UInt8 := if u.1 < 0 then vry (dbl v) else vry v.toNat
def encL : Nat → List Use → List Int → List UInt8
  | n + 1, u :: us, v :: vs => encU u v ++ encL n us vs
  | _, _, _ => []
/-- What Encode answers. -/
def enI (op : Nat) (x y z : Int) : List UInt8 := if ckI op x y z = 0 then UInt8.ofNat op :: encL (shp op).2.toNat (shp op).1 [x, y, z] else []
theorem encU_len (u : Use) (v : Int) : (encU u v).length ≤ 10 := by
  unfold encU
  by_cases h : u.1 < 0
  · rw [if_pos h]; exact (vry_len _).2
  · rw [if_neg h]; exact (vry_len _).2
def EnP (w : World) (op : Nat) (x y z : Int) (e : Ending) (w' : World) : Prop :=
  ∃ A c, e = .returned (.tuple #[.slice A (enI op x y z).length c, .int .i64 (ckI op x y z)]) ∧ w'.ownsRow w.heap.size 5 1 (.slice A (enI op x y z).length c) (enI op x y z).length ((enI op x y z).map b8) ∧ Below w.heap.size w w'
theorem ck_parts {op : Nat} {x y z : Int} {a b c : Use} {n : Int} (h : ckI op x y z = 0) (hs : shp op = ([a, b, c], n)) : 0 ≤ n ∧ (a.1 ≤ x ∧ x ≤ a.2.1) ∧ (b.1 ≤ y ∧ y ≤ b.2.1) ∧ (c.1 ≤ z ∧ z ≤ c.2.1) := by
  unfold ckI at h
  rw [hs] at h
  by_cases hn : n < 0
  · rw [if_pos hn] at h; exact absurd h (by decide)
  rw [if_neg hn] at h
  by_cases hf : fitL [a, b, c] [x, y, z] = true
  · simp [fitL, fitU] at hf
    exact ⟨by omega, hf.1, hf.2.1, hf.2.2⟩
  · rw [if_neg hf] at h; exact absurd h (by decide)

set_option maxRecDepth 100000 in
set_option maxHeartbeats 3200000 in
theorem encode6_any (op : Nat) (hop : op < 256) (x y z : Int) (hx : (-9223372036854775808 ≤ x ∧ x ≤ 9223372036854775807)) (hy : (-9223372036854775808 ≤ y ∧ y ≤ 9223372036854775807)) (hz : (-9223372036854775808 ≤ z ∧ z ≤ 9223372036854775807)) (w : World) :
    Calls Try.prog 18 #[insV op x y z] w fun e w' => EnP w op x y z e w' := by
  have hB : Below w.heap.size w (w.alloc (.cells #[.int .u8 (op : Int), .int .i64 x, .int .i64 y, .int .i64 z] 23)) := (Below.alloc (Below.refl w.heap.size w) (by simp <;> omega) (.cells #[.int .u8 (op : Int), .int .i64 x, .int .i64 y, .int .i64 z] 23))
  have hx := Blk.new w 23 #[.int .u8 (op : Int), .int .i64 x, .int .i64 y, .int .i64 z]
  go_enter Try.func18, Try.ntmps18
  have z1 : (w.alloc (.cells #[.int .u8 (op : Int), .int .i64 x, .int .i64 y, .int .i64 z] 23)).cell? ⟨w.heap.size, 0, none⟩ = some (.int .u8 (op : Int)) := (hx.cell 0).trans rfl
  have z2 := hx.frozen 0
  have z3 : (w.alloc (.cells #[.int .u8 (op : Int), .int .i64 x, .int .i64 y, .int .i64 z] 23)).cell? ⟨w.heap.size, 1, none⟩ = some (.int .i64 x) := (hx.cell 1).trans rfl
  have z4 := hx.frozen 1
  have z5 : (w.alloc (.cells #[.int .u8 (op : Int), .int .i64 x, .int .i64 y, .int .i64 z] 23)).cell? ⟨w.heap.size, 2, none⟩ = some (.int .i64 y) := (hx.cell 2).trans rfl
  have z6 := hx.frozen 2
  have z7 : (w.alloc (.cells #[.int .u8 (op : Int), .int .i64 x, .int .i64 y, .int .i64 z] 23)).cell? ⟨w.heap.size, 3, none⟩ = some (.int .i64 z) := (hx.cell 3).trans rfl
  have z8 := hx.frozen 3
  have z9 := hx.lt
  go_wp2_with fail
  refine (check6_any op hop x y z _).mono ?_
  rintro e w1 ⟨rfl, bB⟩
  replace hx := Blk.via0 (g := w.heap.size) (t := 23) bB (by repeat (first | with_reducible exact hx | with_reducible (apply Blk.set_) | with_reducible (apply Blk.far; case hp => (simp <;> omega)) | with_reducible (apply Blk.alloc) | with_reducible (apply Blk.drew)))
  replace hx : Blk w1 w.heap.size 23 #[.int .u8 (op : Int), .int .i64 x, .int .i64 y, .int .i64 z] := hx
  replace hB := Below.via (w := w) (by have hs_ := hB.size; repeat (first | with_reducible exact hB | with_reducible (refine Below.setCell ?_ (by simp <;> omega) _) | with_reducible (refine Below.alloc ?_ (by first | exact hs_ | (simp <;> omega)) _) | with_reducible (refine Below.drew ?_))) bB
  clear z1 z2 z3 z4 z5 z6 z7 z8 z9
  clear bB
  have z10 : w1.cell? ⟨w.heap.size, 0, none⟩ = some (.int .u8 (op : Int)) := (hx.cell 0).trans rfl
  have z11 := hx.frozen 0
  have z12 : w1.cell? ⟨w.heap.size, 1, none⟩ = some (.int .i64 x) := (hx.cell 1).trans rfl
  have z13 := hx.frozen 1
  have z14 : w1.cell? ⟨w.heap.size, 2, none⟩ = some (.int .i64 y) := (hx.cell 2).trans rfl
  have z15 := hx.frozen 2
  have z16 : w1.cell? ⟨w.heap.size, 3, none⟩ = some (.int .i64 z) := (hx.cell 3).trans rfl
  have z17 := hx.frozen 3
  have z18 := hx.lt
  by_cases hck : ckI op x y z = 0
  rotate_left
  · have HV := Lib.hid (show enI op x y z = [] from by rw [enI, if_neg hck])
    obtain ⟨E, hE⟩ : ∃ E, ckI op x y z = E := ⟨_, rfl⟩
    rw [hE] at hck ⊢
    have HE := Lib.hid hE
    have e1 : (E != 0) = true := by rw [bne_iff_ne]; exact hck
    clear hck hE
    go_wp2_with fail
    go_ret2
    unfold EnP
    refine ⟨none, 0, by rw [HV.out, HE.out]; rfl, ?_, (by have hs_ := hB.size; repeat (first | with_reducible exact hB | with_reducible (refine Below.setCell ?_ (by simp <;> omega) _) | with_reducible (refine Below.alloc ?_ (by first | exact hs_ | (simp <;> omega)) _) | with_reducible (refine Below.drew ?_)))⟩
    rw [HV.out]; exact World.ownsRow_nil _ _ _ _
  obtain ⟨a1, a2, a3, a4, b1, b2, b3, b4, c1, c2, c3, c4, n, hsh, hn1, hn3⟩ := shp_form op
  have HP := Lib.hid (ck_parts hck hsh)
  obtain ⟨m, rfl⟩ := Int.eq_ofNat_of_zero_le HP.out.1
  have HR := Lib.hid (show enI op x y z = [UInt8.ofNat op] ++ encL m [(a1, a2, a3, a4), (b1, b2, b3, b4), (c1, c2, c3, c4)] [x, y, z] from by rw [enI, if_pos hck, hsh]; rfl)
  have HS := fun W => shape_any op hop W
  have HCK := Lib.hid hck
  rw [hsh, usL3] at HS
  rw [hck]
  clear hck hsh
  go_wp2_with fail
  refine (HS _).mono ?_
  rintro e w2 ⟨rfl, bB⟩
  replace hx := Blk.via0 (g := w.heap.size) (t := 23) bB (by repeat (first | with_reducible exact hx | with_reducible (apply Blk.set_) | with_reducible (apply Blk.far; case hp => (simp <;> omega)) | with_reducible (apply Blk.alloc) | with_reducible (apply Blk.drew)))
  replace hx : Blk w2 w.heap.size 23 #[.int .u8 (op : Int), .int .i64 x, .int .i64 y, .int .i64 z] := hx
  replace hB := Below.via (w := w) (by have hs_ := hB.size; repeat (first | with_reducible exact hB | with_reducible (refine Below.setCell ?_ (by simp <;> omega) _) | with_reducible (refine Below.alloc ?_ (by first | exact hs_ | (simp <;> omega)) _) | with_reducible (refine Below.drew ?_))) bB
  clear z10 z11 z12 z13 z14 z15 z16 z17 z18
  clear bB
  clear HS
  have z19 : w2.cell? ⟨w.heap.size, 0, none⟩ = some (.int .u8 (op : Int)) := (hx.cell 0).trans rfl
  have z20 := hx.frozen 0
  have z21 : w2.cell? ⟨w.heap.size, 1, none⟩ = some (.int .i64 x) := (hx.cell 1).trans rfl
  have z22 := hx.frozen 1
  have z23 : w2.cell? ⟨w.heap.size, 2, none⟩ = some (.int .i64 y) := (hx.cell 2).trans rfl
  have z24 := hx.frozen 2
  have z25 : w2.cell? ⟨w.heap.size, 3, none⟩ = some (.int .i64 z) := (hx.cell 3).trans rfl
  have z26 := hx.frozen 3
  have z27 := hx.lt
  go_wp2_with fail
  refine (operands_any op x y z _).mono ?_
  rintro e w3 ⟨rfl, bB⟩
  have o_hx_hu : w.heap.size < w2.heap.size := (by omega)
  have ow_hu : w.heap.size ≤ w2.heap.size := (by have := hB.size; omega)
  have o_hx_hr : w.heap.size < (w2.heap.size + 1) := (by omega)
  have ow_hr : w.heap.size ≤ (w2.heap.size + 1) := (by have := hB.size; omega)
  have o_hu_hr : w2.heap.size < (w2.heap.size + 1) := (by omega)
  replace hx := Blk.via0 (g := w.heap.size) (t := 23) bB (by repeat (first | with_reducible exact hx | with_reducible (apply Blk.set_) | with_reducible (apply Blk.far; case hp => (simp <;> omega)) | with_reducible (apply Blk.alloc) | with_reducible (apply Blk.drew)))
  replace hx : Blk w3 w.heap.size 23 #[.int .u8 (op : Int), .int .i64 x, .int .i64 y, .int .i64 z] := hx
  have hu := Blk.via0 (g := w2.heap.size) (t := 55) bB (by repeat (first | with_reducible exact Blk.newAt (by simp) _ _ | with_reducible (apply Blk.set_) | with_reducible (apply Blk.far; case hp => (simp <;> omega)) | with_reducible (apply Blk.alloc) | with_reducible (apply Blk.drew)))
  replace hu : Blk w3 w2.heap.size 55 #[.int .i64 a1, .int .i64 a2, .bool a3, .bool a4, .int .i64 b1, .int .i64 b2, .bool b3, .bool b4, .int .i64 c1, .int .i64 c2, .bool c3, .bool c4] := hu
  have hr := Blk.via0 (g := (w2.heap.size + 1)) (t := 5) bB (by repeat (first | with_reducible exact Blk.newAt (by simp) _ _ | with_reducible (apply Blk.set_) | with_reducible (apply Blk.far; case hp => (simp <;> omega)) | with_reducible (apply Blk.alloc) | with_reducible (apply Blk.drew)))
  replace hr : Blk w3 (w2.heap.size + 1) 5 #[.int .u8 (op : Int)] := hr
  replace hB := Below.via (w := w) (by have hs_ := hB.size; repeat (first | with_reducible exact hB | with_reducible (refine Below.setCell ?_ (by simp <;> omega) _) | with_reducible (refine Below.alloc ?_ (by first | exact hs_ | (simp <;> omega)) _) | with_reducible (refine Below.drew ?_))) bB
  clear z19 z20 z21 z22 z23 z24 z25 z26 z27
  clear bB
  generalize (w2.heap.size + 1) = pr at *
  generalize w2.heap.size = pu at *
  have I0 := fun W => (idx_i3 x y z W).1
  have I1 := fun W => (idx_i3 x y z W).2.1
  have I2 := fun W => (idx_i3 x y z W).2.2
  have z28 : w3.cell? ⟨w.heap.size, 0, none⟩ = some (.int .u8 (op : Int)) := (hx.cell 0).trans rfl
  have z29 := hx.frozen 0
  have z30 : w3.cell? ⟨w.heap.size, 1, none⟩ = some (.int .i64 x) := (hx.cell 1).trans rfl
  have z31 := hx.frozen 1
  have z32 : w3.cell? ⟨w.heap.size, 2, none⟩ = some (.int .i64 y) := (hx.cell 2).trans rfl
  have z33 := hx.frozen 2
  have z34 : w3.cell? ⟨w.heap.size, 3, none⟩ = some (.int .i64 z) := (hx.cell 3).trans rfl
  have z35 := hx.frozen 3
  have z36 : w3.cell? ⟨pu, 0, none⟩ = some (.int .i64 a1) := (hu.cell 0).trans rfl
  have z37 := hu.frozen 0
  have z38 : w3.cell? ⟨pu, 1, none⟩ = some (.int .i64 a2) := (hu.cell 1).trans rfl
  have z39 := hu.frozen 1
  have z40 : w3.cell? ⟨pu, 2, none⟩ = some (.bool a3) := (hu.cell 2).trans rfl
  have z41 := hu.frozen 2
  have z42 : w3.cell? ⟨pu, 3, none⟩ = some (.bool a4) := (hu.cell 3).trans rfl
  have z43 := hu.frozen 3
  have z44 : w3.cell? ⟨pu, 4, none⟩ = some (.int .i64 b1) := (hu.cell 4).trans rfl
  have z45 := hu.frozen 4
  have z46 : w3.cell? ⟨pu, 5, none⟩ = some (.int .i64 b2) := (hu.cell 5).trans rfl
  have z47 := hu.frozen 5
  have z48 : w3.cell? ⟨pu, 6, none⟩ = some (.bool b3) := (hu.cell 6).trans rfl
  have z49 := hu.frozen 6
  have z50 : w3.cell? ⟨pu, 7, none⟩ = some (.bool b4) := (hu.cell 7).trans rfl
  have z51 := hu.frozen 7
  have z52 : w3.cell? ⟨pu, 8, none⟩ = some (.int .i64 c1) := (hu.cell 8).trans rfl
  have z53 := hu.frozen 8
  have z54 : w3.cell? ⟨pu, 9, none⟩ = some (.int .i64 c2) := (hu.cell 9).trans rfl
  have z55 := hu.frozen 9
  have z56 : w3.cell? ⟨pu, 10, none⟩ = some (.bool c3) := (hu.cell 10).trans rfl
  have z57 := hu.frozen 10
  have z58 : w3.cell? ⟨pu, 11, none⟩ = some (.bool c4) := (hu.cell 11).trans rfl
  have z59 := hu.frozen 11
  have z60 : w3.cell? ⟨pr, 0, none⟩ = some (.int .u8 (op : Int)) := (hr.cell 0).trans rfl
  have z61 := hr.frozen 0
  have z62 := hx.lt
  have z63 := hu.lt
  have z64 := hr.lt
  go_wp2_with fail
  clear z28 z29 z30 z31 z32 z33 z34 z35 z36 z37 z38 z39 z40 z41 z42 z43 z44 z45 z46 z47 z48 z49 z50 z51 z52 z53 z54 z55 z56 z57 z58 z59 z60 z61 z62 z63 z64
  have oR : w3.ownsRow pr 5 1 (.slice (some ⟨pr, 0, none⟩) ([UInt8.ofNat op] : List UInt8).length 1) ([UInt8.ofNat op] : List UInt8).length (([UInt8.ofNat op] : List UInt8).map b8) := own_of_blk [UInt8.ofNat op] (by rw [show ([UInt8.ofNat op] : List UInt8).map b8 = [Value.int .u8 (op : Int)] from by simp [b8_ofNat hop]]; exact hr) (Nat.le_refl _) (by simp)
  have hBl1 : pu < pr := by omega
  have hBl2 : pr ≤ w3.heap.size := Nat.le_of_lt hr.lt
  have hBl3 : w.heap.size ≤ pr := by omega
  clear hr
  go_loopw [7, 26] (fun v2 i wr => ∃ (j : Nat) (A1 : Option Addr) (k1 : Nat) (r1 : List UInt8), j ≤ 3 ∧ i = .int .i64 (j : Int) ∧ v2 = .slice A1 r1.length k1 ∧ r1.length ≤ 1 + 10 * j ∧
      (j = 0 → enI op x y z = r1 ++ encL (m - 0) [(a1, a2, a3, a4), (b1, b2, b3, b4), (c1, c2, c3, c4)] [x, y, z]) ∧ (j = 1 → enI op x y z = r1 ++ encL (m - 1) [(b1, b2, b3, b4), (c1, c2, c3, c4)] [y, z]) ∧ (j = 2 → enI op x y z = r1 ++ encL (m - 2) [(c1, c2, c3, c4)] [z]) ∧ (j = 3 → enI op x y z = r1) ∧
      wr.ownsRow pr 5 1 (.slice A1 r1.length k1) r1.length (r1.map b8) ∧ Blk wr pu 55 #[.int .i64 a1, .int .i64 a2, .bool a3, .bool a4, .int .i64 b1, .int .i64 b2, .bool b3, .bool b4, .int .i64 c1, .int .i64 c2, .bool c3, .bool c4] ∧ Below w.heap.size w wr ∧ pr ≤ wr.heap.size) (fun _ i _ => 3 - (intOf i).toNat)
  case atStart => exact ⟨0, _, 1, [UInt8.ofNat op], by omega, rfl, rfl, by simp, fun _ => HR.out, by omega, by omega, by omega, oR, hu, hB, hBl2⟩
  case round =>
    clear hu hB hx hBl2 oR
    obtain ⟨j, A1, k1, r1, hj, rfl, rfl, l1, h0, h1, h2, h3, o1, hu, hB, hBl2⟩ := hrel
    have l1' : r1.length ≤ 100 := by omega
    rcases j with _ | _ | _ | _ | j
    · have H1 := Lib.hid (h0 rfl)
      clear h0 h1 h2 h3
      have z0 : wr.cell? ⟨pu, 0, none⟩ = some (.int .i64 a1) := (hu.cell 0).trans rfl
      have z1 : wr.cell? ⟨pu, 1, none⟩ = some (.int .i64 a2) := (hu.cell 1).trans rfl
      have z2 : wr.cell? ⟨pu, 2, none⟩ = some (.bool a3) := (hu.cell 2).trans rfl
      have z3 : wr.cell? ⟨pu, 3, none⟩ = some (.bool a4) := (hu.cell 3).trans rfl
      have hfit : a1 ≤ x ∧ x ≤ a2 := HP.out.2.1
      by_cases hm : m ≤ 0
      · have HN1 := Lib.hid (show enI op x y z = r1 ++ encL (m - 1) [(b1, b2, b3, b4), (c1, c2, c3, c4)] [y, z] from by rw [H1.out, show m - 0 = 0 by omega, show m - 1 = 0 by omega]; rfl)
        have dm : decide ((0 : Int) ≥ (m : Int)) = true := by simp; omega
        go_wp2_with fail
        go_roundw
        case rel => exact ⟨1, A1, k1, r1, by omega, by go_num, rfl, by omega, by omega, fun _ => HN1.out, by omega, by omega, o1, hu, hB, hBl2⟩
        case measure => simp [intOf]
      have dm : decide ((0 : Int) ≥ (m : Int)) = false := by simp; omega
      obtain ⟨q, hq⟩ : ∃ q, m - 0 = q + 1 := ⟨m - 0 - 1, by omega⟩
      have HN1 := Lib.hid (show enI op x y z = (r1 ++ encU (a1, a2, a3, a4) x) ++ encL (m - 1) [(b1, b2, b3, b4), (c1, c2, c3, c4)] [y, z] from by rw [H1.out, hq, show m - 1 = q by omega, List.append_assoc]; rfl)
      clear hq
      by_cases hl : a1 < 0
      · have dl : decide (a1 < 0) = true := by simpa using hl
        have HE := Lib.hid (show encU (a1, a2, a3, a4) x = vry (dbl x) from by unfold encU; rw [if_pos hl])
        go_wp2_with fail
        refine (signed_any x hx _).mono ?_
        rintro e w5 ⟨A5, c5, rfl, o5, b5⟩
        have hlen := (vry_len (dbl x)).2
        replace o1 := own_call o1 b5
        replace hu := hu.below b5 hu.lt
        replace hB := hB.trans (b5.mono hB.size)
        replace hBl2 := Nat.le_trans hBl2 b5.size
        have R5 := own_rd o5
        obtain ⟨N, hN⟩ : ∃ N, r1.length + (vry (dbl x)).length = N := ⟨_, rfl⟩
        go_wp2_with (at_builtin; refine wpList_app8g (l := r1) rfl (.tmp 45) (.tmp 47) _ (by rfl) sl8 pr (by rfl) o1 (by rfl) R5 N hN (by omega) hBl2 ?_; intro A7 c7 w7 o7 hg_ b7; replace hu := hu.below b7 hBl1; replace hB := hB.trans (b7.mono hBl3); replace hBl2 := Nat.le_trans hBl2 b7.size; clear o1 o5 R5 b5 hg_ b7)
        go_roundw
        case rel => exact ⟨1, A7, c7, r1 ++ (vry (dbl x)), by omega, by go_num, by rw [List.length_append, hN], by rw [List.length_append]; omega, by omega, fun _ => by rw [← HE.out]; exact HN1.out, by omega, by omega, by rw [List.length_append, hN]; exact o7, hu, hB, hBl2⟩
        case measure => simp [intOf]
      · have dl : decide (a1 < 0) = false := by simp; omega
        obtain ⟨u, rfl⟩ := Int.eq_ofNat_of_zero_le (show 0 ≤ x by omega)
        have HE := Lib.hid (show encU (a1, a2, a3, a4) (u : Int) = vry u from by unfold encU; rw [if_neg hl]; rfl)
        have wu : IntKind.u64.wrap (u : Int) = (u : Int) := by rw [IntKind.wrap_u64]; omega
        go_wp2_with fail
        refine (vary_any u (by omega) _).mono ?_
        rintro e w5 ⟨A5, c5, rfl, o5, b5⟩
        have hlen := (vry_len u).2
        replace o1 := own_call o1 b5
        replace hu := hu.below b5 hu.lt
        replace hB := hB.trans (b5.mono hB.size)
        replace hBl2 := Nat.le_trans hBl2 b5.size
        have R5 := own_rd o5
        obtain ⟨N, hN⟩ : ∃ N, r1.length + (vry u).length = N := ⟨_, rfl⟩
        go_wp2_with (at_builtin; refine wpList_app8g (l := r1) rfl (.tmp 30) (.tmp 33) _ (by rfl) sl8 pr (by rfl) o1 (by rfl) R5 N hN (by omega) hBl2 ?_; intro A7 c7 w7 o7 hg_ b7; replace hu := hu.below b7 hBl1; replace hB := hB.trans (b7.mono hBl3); replace hBl2 := Nat.le_trans hBl2 b7.size; clear o1 o5 R5 b5 hg_ b7)
        go_roundw
        case rel => exact ⟨1, A7, c7, r1 ++ (vry u), by omega, by go_num, by rw [List.length_append, hN], by rw [List.length_append]; omega, by omega, fun _ => by rw [← HE.out]; exact HN1.out, by omega, by omega, by rw [List.length_append, hN]; exact o7, hu, hB, hBl2⟩
        case measure => simp [intOf]
    · have H1 := Lib.hid (h1 rfl)
      clear h0 h1 h2 h3
      have z4 : wr.cell? ⟨pu, 4, none⟩ = some (.int .i64 b1) := (hu.cell 4).trans rfl
      have z5 : wr.cell? ⟨pu, 5, none⟩ = some (.int .i64 b2) := (hu.cell 5).trans rfl
      have z6 : wr.cell? ⟨pu, 6, none⟩ = some (.bool b3) := (hu.cell 6).trans rfl
      have z7 : wr.cell? ⟨pu, 7, none⟩ = some (.bool b4) := (hu.cell 7).trans rfl
      have hfit : b1 ≤ y ∧ y ≤ b2 := HP.out.2.2.1
      by_cases hm : m ≤ 1
      · have HN1 := Lib.hid (show enI op x y z = r1 ++ encL (m - 2) [(c1, c2, c3, c4)] [z] from by rw [H1.out, show m - 1 = 0 by omega, show m - 2 = 0 by omega]; rfl)
        have dm : decide ((1 : Int) ≥ (m : Int)) = true := by simp; omega
        go_wp2_with fail
        go_roundw
        case rel => exact ⟨2, A1, k1, r1, by omega, by go_num, rfl, by omega, by omega, by omega, fun _ => HN1.out, by omega, o1, hu, hB, hBl2⟩
        case measure => simp [intOf]
      have dm : decide ((1 : Int) ≥ (m : Int)) = false := by simp; omega
      obtain ⟨q, hq⟩ : ∃ q, m - 1 = q + 1 := ⟨m - 1 - 1, by omega⟩
      have HN1 := Lib.hid (show enI op x y z = (r1 ++ encU (b1, b2, b3, b4) y) ++ encL (m - 2) [(c1, c2, c3, c4)] [z] from by rw [H1.out, hq, show m - 2 = q by omega, List.append_assoc]; rfl)
      clear hq
      by_cases hl : b1 < 0
      · have dl : decide (b1 < 0) = true := by simpa using hl
        have HE := Lib.hid (show encU (b1, b2, b3, b4) y = vry (dbl y) from by unfold encU; rw [if_pos hl])
        go_wp2_with fail
        refine (signed_any y hy _).mono ?_
        rintro e w5 ⟨A5, c5, rfl, o5, b5⟩
        have hlen := (vry_len (dbl y)).2
        replace o1 := own_call o1 b5
        replace hu := hu.below b5 hu.lt
        replace hB := hB.trans (b5.mono hB.size)
        replace hBl2 := Nat.le_trans hBl2 b5.size
        have R5 := own_rd o5
        obtain ⟨N, hN⟩ : ∃ N, r1.length + (vry (dbl y)).length = N := ⟨_, rfl⟩
        go_wp2_with (at_builtin; refine wpList_app8g (l := r1) rfl (.tmp 45) (.tmp 47) _ (by rfl) sl8 pr (by rfl) o1 (by rfl) R5 N hN (by omega) hBl2 ?_; intro A7 c7 w7 o7 hg_ b7; replace hu := hu.below b7 hBl1; replace hB := hB.trans (b7.mono hBl3); replace hBl2 := Nat.le_trans hBl2 b7.size; clear o1 o5 R5 b5 hg_ b7)
        go_roundw
        case rel => exact ⟨2, A7, c7, r1 ++ (vry (dbl y)), by omega, by go_num, by rw [List.length_append, hN], by rw [List.length_append]; omega, by omega, by omega, fun _ => by rw [← HE.out]; exact HN1.out, by omega, by rw [List.length_append, hN]; exact o7, hu, hB, hBl2⟩
        case measure => simp [intOf]
      · have dl : decide (b1 < 0) = false := by simp; omega
        obtain ⟨u, rfl⟩ := Int.eq_ofNat_of_zero_le (show 0 ≤ y by omega)
        have HE := Lib.hid (show encU (b1, b2, b3, b4) (u : Int) = vry u from by unfold encU; rw [if_neg hl]; rfl)
        have wu : IntKind.u64.wrap (u : Int) = (u : Int) := by rw [IntKind.wrap_u64]; omega
        go_wp2_with fail
        refine (vary_any u (by omega) _).mono ?_
        rintro e w5 ⟨A5, c5, rfl, o5, b5⟩
        have hlen := (vry_len u).2
        replace o1 := own_call o1 b5
        replace hu := hu.below b5 hu.lt
        replace hB := hB.trans (b5.mono hB.size)
        replace hBl2 := Nat.le_trans hBl2 b5.size
        have R5 := own_rd o5
        obtain ⟨N, hN⟩ : ∃ N, r1.length + (vry u).length = N := ⟨_, rfl⟩
        go_wp2_with (at_builtin; refine wpList_app8g (l := r1) rfl (.tmp 30) (.tmp 33) _ (by rfl) sl8 pr (by rfl) o1 (by rfl) R5 N hN (by omega) hBl2 ?_; intro A7 c7 w7 o7 hg_ b7; replace hu := hu.below b7 hBl1; replace hB := hB.trans (b7.mono hBl3); replace hBl2 := Nat.le_trans hBl2 b7.size; clear o1 o5 R5 b5 hg_ b7)
        go_roundw
        case rel => exact ⟨2, A7, c7, r1 ++ (vry u), by omega, by go_num, by rw [List.length_append, hN], by rw [List.length_append]; omega, by omega, by omega, fun _ => by rw [← HE.out]; exact HN1.out, by omega, by rw [List.length_append, hN]; exact o7, hu, hB, hBl2⟩
        case measure => simp [intOf]
    · have H1 := Lib.hid (h2 rfl)
      clear h0 h1 h2 h3
      have z8 : wr.cell? ⟨pu, 8, none⟩ = some (.int .i64 c1) := (hu.cell 8).trans rfl
      have z9 : wr.cell? ⟨pu, 9, none⟩ = some (.int .i64 c2) := (hu.cell 9).trans rfl
      have z10 : wr.cell? ⟨pu, 10, none⟩ = some (.bool c3) := (hu.cell 10).trans rfl
      have z11 : wr.cell? ⟨pu, 11, none⟩ = some (.bool c4) := (hu.cell 11).trans rfl
      have hfit : c1 ≤ z ∧ z ≤ c2 := HP.out.2.2.2
      by_cases hm : m ≤ 2
      · have HN1 := Lib.hid (show enI op x y z = r1 ++ [] from by rw [H1.out, show m - 2 = 0 by omega]; rfl)
        have dm : decide ((2 : Int) ≥ (m : Int)) = true := by simp; omega
        go_wp2_with fail
        go_roundw
        case rel => exact ⟨3, A1, k1, r1, by omega, by go_num, rfl, by omega, by omega, by omega, by omega, fun _ => HN1.out.trans (List.append_nil _), o1, hu, hB, hBl2⟩
        case measure => simp [intOf]
      have dm : decide ((2 : Int) ≥ (m : Int)) = false := by simp; omega
      obtain ⟨q, hq⟩ : ∃ q, m - 2 = q + 1 := ⟨m - 2 - 1, by omega⟩
      have HN1 := Lib.hid (show enI op x y z = (r1 ++ encU (c1, c2, c3, c4) z) ++ [] from by rw [H1.out, hq, List.append_assoc]; cases q <;> rfl)
      clear hq
      by_cases hl : c1 < 0
      · have dl : decide (c1 < 0) = true := by simpa using hl
        have HE := Lib.hid (show encU (c1, c2, c3, c4) z = vry (dbl z) from by unfold encU; rw [if_pos hl])
        go_wp2_with fail
        refine (signed_any z hz _).mono ?_
        rintro e w5 ⟨A5, c5, rfl, o5, b5⟩
        have hlen := (vry_len (dbl z)).2
        replace o1 := own_call o1 b5
        replace hu := hu.below b5 hu.lt
        replace hB := hB.trans (b5.mono hB.size)
        replace hBl2 := Nat.le_trans hBl2 b5.size
        have R5 := own_rd o5
        obtain ⟨N, hN⟩ : ∃ N, r1.length + (vry (dbl z)).length = N := ⟨_, rfl⟩
        go_wp2_with (at_builtin; refine wpList_app8g (l := r1) rfl (.tmp 45) (.tmp 47) _ (by rfl) sl8 pr (by rfl) o1 (by rfl) R5 N hN (by omega) hBl2 ?_; intro A7 c7 w7 o7 hg_ b7; replace hu := hu.below b7 hBl1; replace hB := hB.trans (b7.mono hBl3); replace hBl2 := Nat.le_trans hBl2 b7.size; clear o1 o5 R5 b5 hg_ b7)
        go_roundw
        case rel => exact ⟨3, A7, c7, r1 ++ (vry (dbl z)), by omega, by go_num, by rw [List.length_append, hN], by rw [List.length_append]; omega, by omega, by omega, by omega, fun _ => by rw [← HE.out]; exact HN1.out.trans (List.append_nil _), by rw [List.length_append, hN]; exact o7, hu, hB, hBl2⟩
        case measure => simp [intOf]
      · have dl : decide (c1 < 0) = false := by simp; omega
        obtain ⟨u, rfl⟩ := Int.eq_ofNat_of_zero_le (show 0 ≤ z by omega)
        have HE := Lib.hid (show encU (c1, c2, c3, c4) (u : Int) = vry u from by unfold encU; rw [if_neg hl]; rfl)
        have wu : IntKind.u64.wrap (u : Int) = (u : Int) := by rw [IntKind.wrap_u64]; omega
        go_wp2_with fail
        refine (vary_any u (by omega) _).mono ?_
        rintro e w5 ⟨A5, c5, rfl, o5, b5⟩
        have hlen := (vry_len u).2
        replace o1 := own_call o1 b5
        replace hu := hu.below b5 hu.lt
        replace hB := hB.trans (b5.mono hB.size)
        replace hBl2 := Nat.le_trans hBl2 b5.size
        have R5 := own_rd o5
        obtain ⟨N, hN⟩ : ∃ N, r1.length + (vry u).length = N := ⟨_, rfl⟩
        go_wp2_with (at_builtin; refine wpList_app8g (l := r1) rfl (.tmp 30) (.tmp 33) _ (by rfl) sl8 pr (by rfl) o1 (by rfl) R5 N hN (by omega) hBl2 ?_; intro A7 c7 w7 o7 hg_ b7; replace hu := hu.below b7 hBl1; replace hB := hB.trans (b7.mono hBl3); replace hBl2 := Nat.le_trans hBl2 b7.size; clear o1 o5 R5 b5 hg_ b7)
        go_roundw
        case rel => exact ⟨3, A7, c7, r1 ++ (vry u), by omega, by go_num, by rw [List.length_append, hN], by rw [List.length_append]; omega, by omega, by omega, by omega, fun _ => by rw [← HE.out]; exact HN1.out.trans (List.append_nil _), by rw [List.length_append, hN]; exact o7, hu, hB, hBl2⟩
        case measure => simp [intOf]
    · have H1 := Lib.hid (h3 rfl)
      clear h0 h1 h2 h3
      go_wp2_with fail
      go_ret2
      unfold EnP
      exact ⟨A1, k1, by rw [H1.out, HCK.out]; rfl, by rw [H1.out]; exact own_low o1 hBl3, hB⟩
    · omega

end Go.Proofs.Ytkhdeoihjnpnaaa
