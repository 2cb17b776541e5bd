/- The contract of others. It states its conditions. -/
import Derived.Test.YteaaiacgebikpaaSecNm1
import Derived.Test.YteaaiacgebikpaaAz
import Derived.Test.YteaaiacgebikpaaWk
import Derived.StillTailTactics
import Derived.Lib.AppendZerosOnto
import Derived.BigQuiet
namespace Go.Proofs.Yteaaiacgebikpaa
open Go.RowKit Wire Crc
set_option linter.unusedVariables false

def wNm : List UInt8 := [87, 82, 67, 75, 1, 3, 1, 49, 0, 0, 0, 3, 0, 0, 0, 194, 65, 36, 53, 4, 52, 0, 0, 0, 0, 0, 0, 0, 0, 0, 0, 0, 5, 52, 0, 0, 0, 1, 0, 0, 0, 141, 239, 2, 210, 78, 184, 126, 76, 97, 98, 99, 0]
theorem wNm_len : wNm.length = 53 := rfl
def wN0 : List UInt8 := [87, 82, 67, 75, 1, 3, 1, 49, 0, 0, 0, 3, 0, 0, 0, 194, 65, 36, 53, 1, 52, 0, 0, 0, 0, 0, 0, 0, 0, 0, 0, 0, 5, 52, 0, 0, 0, 1, 0, 0, 0, 141, 239, 2, 210, 78, 184, 126, 76, 97, 98, 99, 0]
def wM0 : List UInt8 := [87, 82, 67, 75, 1, 3, 1, 49, 0, 0, 0, 3, 0, 0, 0, 194, 65, 36, 53, 1, 52, 0, 0, 0, 0, 0, 0, 0, 0, 0, 0, 0, 5, 52, 0, 0, 0, 1, 0, 0, 0, 141, 239, 2, 210, 7, 136, 247, 129, 97, 98, 99, 0]
theorem wN0_crc : nxt 0 (wN0.take 45) = 2180483079 := by decide +kernel
theorem wM0_red : redS wM0 = ([], 12) := by decide +kernel
def wN1 : List UInt8 := [87, 82, 67, 75, 1, 3, 1, 49, 0, 0, 0, 3, 0, 0, 0, 194, 65, 36, 53, 4, 53, 0, 0, 0, 0, 0, 0, 0, 0, 0, 0, 0, 5, 52, 0, 0, 0, 1, 0, 0, 0, 141, 239, 2, 210, 78, 184, 126, 76, 97, 98, 99, 0]
def wM1 : List UInt8 := [87, 82, 67, 75, 1, 3, 1, 49, 0, 0, 0, 3, 0, 0, 0, 194, 65, 36, 53, 4, 53, 0, 0, 0, 0, 0, 0, 0, 0, 0, 0, 0, 5, 52, 0, 0, 0, 1, 0, 0, 0, 141, 239, 2, 210, 64, 40, 245, 233, 97, 98, 99, 0]
theorem wN1_crc : nxt 0 (wN1.take 45) = 3925157952 := by decide +kernel
theorem wM1_red : redS wM1 = ([], 12) := by decide +kernel
def wN2 : List UInt8 := [87, 82, 67, 75, 1, 3, 1, 49, 0, 0, 0, 3, 0, 0, 0, 194, 65, 36, 53, 4, 52, 0, 0, 0, 0, 0, 0, 0, 0, 0, 0, 0, 5, 52, 0, 0, 0, 2, 0, 0, 0, 141, 239, 2, 210, 78, 184, 126, 76, 97, 98, 99, 0]
def wM2 : List UInt8 := [87, 82, 67, 75, 1, 3, 1, 49, 0, 0, 0, 3, 0, 0, 0, 194, 65, 36, 53, 4, 52, 0, 0, 0, 0, 0, 0, 0, 0, 0, 0, 0, 5, 52, 0, 0, 0, 2, 0, 0, 0, 141, 239, 2, 210, 173, 191, 241, 194, 97, 98, 99, 0]
theorem wN2_crc : nxt 0 (wN2.take 45) = 3270623149 := by decide +kernel
theorem wM2_red : redS wM2 = ([], 12) := by decide +kernel
def w8z : List UInt8 := [87, 82, 67, 75, 1, 8] ++ List.replicate 200 0
theorem w8z_red : redS w8z = ([], 12) := by decide +kernel
theorem wMore_red : redS (wNm ++ [0]) = ([], 12) := by decide +kernel
theorem red_many {b : List UInt8} (h : 200000 < b.length) : redS b = ([], 4) := by rw [redS, if_pos h]
theorem red_zeros {n : Nat} (h : 10 ≤ n ∧ n ≤ 200000) : redS (List.replicate n 0) = ([], 12) := by
  rw [redS, if_neg (by simp; omega), if_neg (by simp; omega), if_pos (by rw [List.take_replicate, show min 5 n = 5 by omega]; decide)]

set_option maxRecDepth 100000 in
set_option maxHeartbeats 3200000 in
theorem others_any (A : Option Addr) (c : Nat) (w : World) (hr : Rb w A 53 wNm) (hc : 53 ≤ c ∧ c ≤ 9223372036854775807) :
    Calls Try.prog 26 #[.slice A 53 c] w fun e w' => e = .returned (.bool true) ∧ Below w.heap.size w w' := by
  have HR := Lib.hid hr
  clear hr
  have hB : Below w.heap.size w ((w.alloc (.cells #[.int .i64 19, .int .i64 20, .int .i64 37] 3)).alloc (.cells #[.int .u8 253, .int .u8 1, .int .u8 1] 5)) := (Below.alloc (Below.alloc (Below.refl w.heap.size w) (by simp <;> omega) (.cells #[.int .i64 19, .int .i64 20, .int .i64 37] 3)) (by simp <;> omega) (.cells #[.int .u8 253, .int .u8 1, .int .u8 1] 5))
  have hAT := Blk.new w 3 #[.int .i64 19, .int .i64 20, .int .i64 37]
  replace hAT := hAT.alloc (.cells #[.int .u8 253, .int .u8 1, .int .u8 1] 5)
  have hBY := Blk.new (w.alloc (.cells #[.int .i64 19, .int .i64 20, .int .i64 37] 3)) 5 #[.int .u8 253, .int .u8 1, .int .u8 1]
  rw [show (w.alloc (.cells #[.int .i64 19, .int .i64 20, .int .i64 37] 3)).heap.size = w.heap.size + 1 from by simp] at hBY
  go_enter Try.func26, Try.ntmps26
  have z1 : ((w.alloc (.cells #[.int .i64 19, .int .i64 20, .int .i64 37] 3)).alloc (.cells #[.int .u8 253, .int .u8 1, .int .u8 1] 5)).cell? ⟨w.heap.size, 0, none⟩ = some (.int .i64 19) := (hAT.cell 0).trans rfl
  have z2 := hAT.frozen 0
  have z3 : ((w.alloc (.cells #[.int .i64 19, .int .i64 20, .int .i64 37] 3)).alloc (.cells #[.int .u8 253, .int .u8 1, .int .u8 1] 5)).cell? ⟨w.heap.size, 1, none⟩ = some (.int .i64 20) := (hAT.cell 1).trans rfl
  have z4 := hAT.frozen 1
  have z5 : ((w.alloc (.cells #[.int .i64 19, .int .i64 20, .int .i64 37] 3)).alloc (.cells #[.int .u8 253, .int .u8 1, .int .u8 1] 5)).cell? ⟨w.heap.size, 2, none⟩ = some (.int .i64 37) := (hAT.cell 2).trans rfl
  have z6 := hAT.frozen 2
  have z7 : ((w.alloc (.cells #[.int .i64 19, .int .i64 20, .int .i64 37] 3)).alloc (.cells #[.int .u8 253, .int .u8 1, .int .u8 1] 5)).cell? ⟨(w.heap.size + 1), 0, none⟩ = some (.int .u8 253) := (hBY.cell 0).trans rfl
  have z8 := hBY.frozen 0
  have z9 : ((w.alloc (.cells #[.int .i64 19, .int .i64 20, .int .i64 37] 3)).alloc (.cells #[.int .u8 253, .int .u8 1, .int .u8 1] 5)).cell? ⟨(w.heap.size + 1), 1, none⟩ = some (.int .u8 1) := (hBY.cell 1).trans rfl
  have z10 := hBY.frozen 1
  have z11 : ((w.alloc (.cells #[.int .i64 19, .int .i64 20, .int .i64 37] 3)).alloc (.cells #[.int .u8 253, .int .u8 1, .int .u8 1] 5)).cell? ⟨(w.heap.size + 1), 2, none⟩ = some (.int .u8 1) := (hBY.cell 2).trans rfl
  have z12 := hBY.frozen 2
  have z13 := hAT.lt
  have z14 := hBY.lt
  have RW := HR.out.mv (Below.refl w.heap.size w)
  have R : Rb ((w.alloc (.cells #[.int .i64 19, .int .i64 20, .int .i64 37] 3)).alloc (.cells #[.int .u8 253, .int .u8 1, .int .u8 1] 5)) A 53 wNm := HR.out.mv hB
  clear RW
  go_wp2_with fail
  clear z1 z2 z3 z4 z5 z6 z7 z8 z9 z10 z11 z12 z13 z14
  go_loopw [5] (fun i wr => ∃ j : Nat, j ≤ 3 ∧ i = .int .i64 (j : Int) ∧ Blk wr w.heap.size 3 #[.int .i64 19, .int .i64 20, .int .i64 37] ∧ Blk wr (w.heap.size + 1) 5 #[.int .u8 253, .int .u8 1, .int .u8 1] ∧ Rb wr A 53 wNm ∧ Below w.heap.size w wr) (fun i _ => 3 - (intOf i).toNat)
  case atStart => exact ⟨0, by omega, rfl, hAT, hBY, R, hB⟩
  case round =>
    clear R hAT hBY hB
    obtain ⟨j, hj, rfl, hAT, hBY, R, hB⟩ := hrel
    rcases j with _ | _ | _ | _ | j
    · have hAl := hAT.lt
      have hBl := hBY.lt
      have oe := own_empty wr (Nat.le_refl _) 5 1
      have hE := (Below.refl wr.heap.size wr).alloc (Nat.le_refl _) (.cells #[] 5)
      have RE := R.mv hE
      have HRR := Lib.hid R
      clear R
      go_wp2_with (at_builtin; refine wpList_app8g (l := []) rfl (.tmp 27) (.tmp 28) _ (by rfl) sl8 wr.heap.size (by rfl) oe (by rfl) RE 53 (by omega) (by omega) hE.size ?_; intro A7 c7 w7 o7 hg_ b7; rw [List.nil_append] at o7; have b17 := hE.trans b7; obtain ⟨g, hA, hgb⟩ := own_head o7 (by omega); subst hA; have hcp := own_cap o7)
      replace hAT := hAT.below b17 hAT.lt
      replace hBY := hBY.below b17 hBY.lt
      replace o7 := own_drew_ o7
      replace b17 := b17.drew
      replace hAT := hAT.drew
      replace hBY := hBY.drew
      have za0 : w7.drew.cell? ⟨w.heap.size, 0, none⟩ = some (.int .i64 19) := (hAT.cell 0).trans rfl
      have za1 : w7.drew.cell? ⟨w.heap.size, 1, none⟩ = some (.int .i64 20) := (hAT.cell 1).trans rfl
      have za2 : w7.drew.cell? ⟨w.heap.size, 2, none⟩ = some (.int .i64 37) := (hAT.cell 2).trans rfl
      have zb0 : w7.drew.cell? ⟨w.heap.size + 1, 0, none⟩ = some (.int .u8 253) := (hBY.cell 0).trans rfl
      have zb1 : w7.drew.cell? ⟨w.heap.size + 1, 1, none⟩ = some (.int .u8 1) := (hBY.cell 1).trans rfl
      have zb2 : w7.drew.cell? ⟨w.heap.size + 1, 2, none⟩ = some (.int .u8 1) := (hBY.cell 2).trans rfl
      have zc : w7.drew.cell? ⟨g, 19, none⟩ = some (.int .u8 4) := (o7.cellAt 19 (by omega)).trans rfl
      have zf := o7.frozenAt 19
      go_still_tail 13, (by kernel_rfl)
      change wpList _ _ _ _ _ w7.drew
      have o8 := (o7.stored 19 (.int .u8 1)).1
      replace b17 := b17.setCell (p := ⟨g, 19, none⟩) hgb (.int .u8 1)
      generalize w7.drew = w7' at *
      go_wp2_with fail
      replace hAT := hAT.far (p := ⟨g, 19, none⟩) (by show _ ≠ g; omega) (.int .u8 1)
      replace hBY := hBY.far (p := ⟨g, 19, none⟩) (by show _ ≠ g; omega) (.int .u8 1)
      generalize w7'.setCell ⟨g, 19, none⟩ (.int .u8 1) = w8 at *
      rw [show (List.map b8 wNm).set 19 (.int .u8 1) = wN0.map b8 from rfl] at o8
      have R45 : Rb w8 (some ⟨g, 0, none⟩) 45 (wN0.take 45) := by
        have h := Reads.first (m := 45) (own_rd o8) (by omega)
        rwa [Nat.mul_one, ← List.map_take] at h
      have hB8 := hB.trans (b17.mono hB.size)
      have hg8 := Nat.le_trans hB.size hgb
      have hon := on_any 0 (by omega) _ 45 c7 _ w8 R45 (by omega)
      rw [wN0_crc] at hon
      refine hon.mono ?_
      rintro e w9 ⟨rfl, b9⟩
      replace hAT := hAT.below b9 hAT.lt
      replace hBY := hBY.below b9 hBY.lt
      replace o8 := own_call o8 b9
      have hB9 := hB8.trans (b9.mono hB8.size)
      clear R45 hon b9 hB8
      have c0 : w9.cell? ⟨g, 45, none⟩ = some (.int .u8 78) := (o8.cellAt 45 (by omega)).trans rfl
      have c1 : w9.cell? ⟨g, 46, none⟩ = some (.int .u8 184) := (o8.cellAt 46 (by omega)).trans rfl
      have c2 : w9.cell? ⟨g, 47, none⟩ = some (.int .u8 126) := (o8.cellAt 47 (by omega)).trans rfl
      have c3 : w9.cell? ⟨g, 48, none⟩ = some (.int .u8 76) := (o8.cellAt 48 (by omega)).trans rfl
      have f0 := o8.frozenAt 45
      have f1 := o8.frozenAt 46
      have f2 := o8.frozenAt 47
      have f3 := o8.frozenAt 48
      have o9 := (((o8.stored 45 (.int .u8 7)).1.stored 46 (.int .u8 136)).1.stored 47 (.int .u8 247)).1.stored 48 (.int .u8 129)
      have o10 := o9.1
      rw [show (((((wN0.map b8).set 45 (.int .u8 7)).set 46 (.int .u8 136)).set 47 (.int .u8 247)).set 48 (.int .u8 129)) = wM0.map b8 from rfl] at o10
      have hB10 := (((hB9.setCell (p := ⟨g, 45, none⟩) hg8 (.int .u8 7)).setCell (p := ⟨g, 46, none⟩) hg8 (.int .u8 136)).setCell (p := ⟨g, 47, none⟩) hg8 (.int .u8 247)).setCell (p := ⟨g, 48, none⟩) hg8 (.int .u8 129)
      replace hAT := (((hAT.far (p := ⟨g, 45, none⟩) (by show _ ≠ g; omega) (.int .u8 7)).far (p := ⟨g, 46, none⟩) (by show _ ≠ g; omega) (.int .u8 136)).far (p := ⟨g, 47, none⟩) (by show _ ≠ g; omega) (.int .u8 247)).far (p := ⟨g, 48, none⟩) (by show _ ≠ g; omega) (.int .u8 129)
      replace hBY := (((hBY.far (p := ⟨g, 45, none⟩) (by show _ ≠ g; omega) (.int .u8 7)).far (p := ⟨g, 46, none⟩) (by show _ ≠ g; omega) (.int .u8 136)).far (p := ⟨g, 47, none⟩) (by show _ ≠ g; omega) (.int .u8 247)).far (p := ⟨g, 48, none⟩) (by show _ ≠ g; omega) (.int .u8 129)
      go_wp2_with fail
      clear o9 o8 hB9 c0 c1 c2 c3 f0 f1 f2 f3
      generalize (((w9.setCell ⟨g, 45, none⟩ (.int .u8 7)).setCell ⟨g, 46, none⟩ (.int .u8 136)).setCell ⟨g, 47, none⟩ (.int .u8 247)).setCell ⟨g, 48, none⟩ (.int .u8 129) = w10 at *
      have hrd := read25_any _ 53 c7 _ w10 (own_rd o10) (by obtain ⟨h1, h2⟩ := hcp; unfold maxLen at h2; omega)
      rw [wM0_red] at hrd
      refine hrd.mono ?_
      rintro e w11 ⟨A11, c11, rfl, o11, b11⟩
      replace hAT := hAT.below b11 hAT.lt
      replace hBY := hBY.below b11 hBY.lt
      replace hB10 := hB10.trans (b11.mono hB10.size)
      clear hrd o11 b11 o10
      go_wp2_with fail
      go_roundw
      case rel => exact ⟨1, by omega, by go_num, hAT, hBY, HR.out.mv hB10, hB10⟩
      case measure => simp [intOf]
    · have hAl := hAT.lt
      have hBl := hBY.lt
      have oe := own_empty wr (Nat.le_refl _) 5 1
      have hE := (Below.refl wr.heap.size wr).alloc (Nat.le_refl _) (.cells #[] 5)
      have RE := R.mv hE
      have HRR := Lib.hid R
      clear R
      go_wp2_with (at_builtin; refine wpList_app8g (l := []) rfl (.tmp 27) (.tmp 28) _ (by rfl) sl8 wr.heap.size (by rfl) oe (by rfl) RE 53 (by omega) (by omega) hE.size ?_; intro A7 c7 w7 o7 hg_ b7; rw [List.nil_append] at o7; have b17 := hE.trans b7; obtain ⟨g, hA, hgb⟩ := own_head o7 (by omega); subst hA; have hcp := own_cap o7)
      replace hAT := hAT.below b17 hAT.lt
      replace hBY := hBY.below b17 hBY.lt
      replace o7 := own_drew_ o7
      replace b17 := b17.drew
      replace hAT := hAT.drew
      replace hBY := hBY.drew
      have za0 : w7.drew.cell? ⟨w.heap.size, 0, none⟩ = some (.int .i64 19) := (hAT.cell 0).trans rfl
      have za1 : w7.drew.cell? ⟨w.heap.size, 1, none⟩ = some (.int .i64 20) := (hAT.cell 1).trans rfl
      have za2 : w7.drew.cell? ⟨w.heap.size, 2, none⟩ = some (.int .i64 37) := (hAT.cell 2).trans rfl
      have zb0 : w7.drew.cell? ⟨w.heap.size + 1, 0, none⟩ = some (.int .u8 253) := (hBY.cell 0).trans rfl
      have zb1 : w7.drew.cell? ⟨w.heap.size + 1, 1, none⟩ = some (.int .u8 1) := (hBY.cell 1).trans rfl
      have zb2 : w7.drew.cell? ⟨w.heap.size + 1, 2, none⟩ = some (.int .u8 1) := (hBY.cell 2).trans rfl
      have zc : w7.drew.cell? ⟨g, 20, none⟩ = some (.int .u8 52) := (o7.cellAt 20 (by omega)).trans rfl
      have zf := o7.frozenAt 20
      go_still_tail 13, (by kernel_rfl)
      change wpList _ _ _ _ _ w7.drew
      have o8 := (o7.stored 20 (.int .u8 53)).1
      replace b17 := b17.setCell (p := ⟨g, 20, none⟩) hgb (.int .u8 53)
      generalize w7.drew = w7' at *
      go_wp2_with fail
      replace hAT := hAT.far (p := ⟨g, 20, none⟩) (by show _ ≠ g; omega) (.int .u8 53)
      replace hBY := hBY.far (p := ⟨g, 20, none⟩) (by show _ ≠ g; omega) (.int .u8 53)
      generalize w7'.setCell ⟨g, 20, none⟩ (.int .u8 53) = w8 at *
      rw [show (List.map b8 wNm).set 20 (.int .u8 53) = wN1.map b8 from rfl] at o8
      have R45 : Rb w8 (some ⟨g, 0, none⟩) 45 (wN1.take 45) := by
        have h := Reads.first (m := 45) (own_rd o8) (by omega)
        rwa [Nat.mul_one, ← List.map_take] at h
      have hB8 := hB.trans (b17.mono hB.size)
      have hg8 := Nat.le_trans hB.size hgb
      have hon := on_any 0 (by omega) _ 45 c7 _ w8 R45 (by omega)
      rw [wN1_crc] at hon
      refine hon.mono ?_
      rintro e w9 ⟨rfl, b9⟩
      replace hAT := hAT.below b9 hAT.lt
      replace hBY := hBY.below b9 hBY.lt
      replace o8 := own_call o8 b9
      have hB9 := hB8.trans (b9.mono hB8.size)
      clear R45 hon b9 hB8
      have c0 : w9.cell? ⟨g, 45, none⟩ = some (.int .u8 78) := (o8.cellAt 45 (by omega)).trans rfl
      have c1 : w9.cell? ⟨g, 46, none⟩ = some (.int .u8 184) := (o8.cellAt 46 (by omega)).trans rfl
      have c2 : w9.cell? ⟨g, 47, none⟩ = some (.int .u8 126) := (o8.cellAt 47 (by omega)).trans rfl
      have c3 : w9.cell? ⟨g, 48, none⟩ = some (.int .u8 76) := (o8.cellAt 48 (by omega)).trans rfl
      have f0 := o8.frozenAt 45
      have f1 := o8.frozenAt 46
      have f2 := o8.frozenAt 47
      have f3 := o8.frozenAt 48
      have o9 := (((o8.stored 45 (.int .u8 64)).1.stored 46 (.int .u8 40)).1.stored 47 (.int .u8 245)).1.stored 48 (.int .u8 233)
      have o10 := o9.1
      rw [show (((((wN1.map b8).set 45 (.int .u8 64)).set 46 (.int .u8 40)).set 47 (.int .u8 245)).set 48 (.int .u8 233)) = wM1.map b8 from rfl] at o10
      have hB10 := (((hB9.setCell (p := ⟨g, 45, none⟩) hg8 (.int .u8 64)).setCell (p := ⟨g, 46, none⟩) hg8 (.int .u8 40)).setCell (p := ⟨g, 47, none⟩) hg8 (.int .u8 245)).setCell (p := ⟨g, 48, none⟩) hg8 (.int .u8 233)
      replace hAT := (((hAT.far (p := ⟨g, 45, none⟩) (by show _ ≠ g; omega) (.int .u8 64)).far (p := ⟨g, 46, none⟩) (by show _ ≠ g; omega) (.int .u8 40)).far (p := ⟨g, 47, none⟩) (by show _ ≠ g; omega) (.int .u8 245)).far (p := ⟨g, 48, none⟩) (by show _ ≠ g; omega) (.int .u8 233)
      replace hBY := (((hBY.far (p := ⟨g, 45, none⟩) (by show _ ≠ g; omega) (.int .u8 64)).far (p := ⟨g, 46, none⟩) (by show _ ≠ g; omega) (.int .u8 40)).far (p := ⟨g, 47, none⟩) (by show _ ≠ g; omega) (.int .u8 245)).far (p := ⟨g, 48, none⟩) (by show _ ≠ g; omega) (.int .u8 233)
      go_wp2_with fail
      clear o9 o8 hB9 c0 c1 c2 c3 f0 f1 f2 f3
      generalize (((w9.setCell ⟨g, 45, none⟩ (.int .u8 64)).setCell ⟨g, 46, none⟩ (.int .u8 40)).setCell ⟨g, 47, none⟩ (.int .u8 245)).setCell ⟨g, 48, none⟩ (.int .u8 233) = w10 at *
      have hrd := read25_any _ 53 c7 _ w10 (own_rd o10) (by obtain ⟨h1, h2⟩ := hcp; unfold maxLen at h2; omega)
      rw [wM1_red] at hrd
      refine hrd.mono ?_
      rintro e w11 ⟨A11, c11, rfl, o11, b11⟩
      replace hAT := hAT.below b11 hAT.lt
      replace hBY := hBY.below b11 hBY.lt
      replace hB10 := hB10.trans (b11.mono hB10.size)
      clear hrd o11 b11 o10
      go_wp2_with fail
      go_roundw
      case rel => exact ⟨2, by omega, by go_num, hAT, hBY, HR.out.mv hB10, hB10⟩
      case measure => simp [intOf]
    · have hAl := hAT.lt
      have hBl := hBY.lt
      have oe := own_empty wr (Nat.le_refl _) 5 1
      have hE := (Below.refl wr.heap.size wr).alloc (Nat.le_refl _) (.cells #[] 5)
      have RE := R.mv hE
      have HRR := Lib.hid R
      clear R
      go_wp2_with (at_builtin; refine wpList_app8g (l := []) rfl (.tmp 27) (.tmp 28) _ (by rfl) sl8 wr.heap.size (by rfl) oe (by rfl) RE 53 (by omega) (by omega) hE.size ?_; intro A7 c7 w7 o7 hg_ b7; rw [List.nil_append] at o7; have b17 := hE.trans b7; obtain ⟨g, hA, hgb⟩ := own_head o7 (by omega); subst hA; have hcp := own_cap o7)
      replace hAT := hAT.below b17 hAT.lt
      replace hBY := hBY.below b17 hBY.lt
      replace o7 := own_drew_ o7
      replace b17 := b17.drew
      replace hAT := hAT.drew
      replace hBY := hBY.drew
      have za0 : w7.drew.cell? ⟨w.heap.size, 0, none⟩ = some (.int .i64 19) := (hAT.cell 0).trans rfl
      have za1 : w7.drew.cell? ⟨w.heap.size, 1, none⟩ = some (.int .i64 20) := (hAT.cell 1).trans rfl
      have za2 : w7.drew.cell? ⟨w.heap.size, 2, none⟩ = some (.int .i64 37) := (hAT.cell 2).trans rfl
      have zb0 : w7.drew.cell? ⟨w.heap.size + 1, 0, none⟩ = some (.int .u8 253) := (hBY.cell 0).trans rfl
      have zb1 : w7.drew.cell? ⟨w.heap.size + 1, 1, none⟩ = some (.int .u8 1) := (hBY.cell 1).trans rfl
      have zb2 : w7.drew.cell? ⟨w.heap.size + 1, 2, none⟩ = some (.int .u8 1) := (hBY.cell 2).trans rfl
      have zc : w7.drew.cell? ⟨g, 37, none⟩ = some (.int .u8 1) := (o7.cellAt 37 (by omega)).trans rfl
      have zf := o7.frozenAt 37
      go_still_tail 13, (by kernel_rfl)
      change wpList _ _ _ _ _ w7.drew
      have o8 := (o7.stored 37 (.int .u8 2)).1
      replace b17 := b17.setCell (p := ⟨g, 37, none⟩) hgb (.int .u8 2)
      generalize w7.drew = w7' at *
      go_wp2_with fail
      replace hAT := hAT.far (p := ⟨g, 37, none⟩) (by show _ ≠ g; omega) (.int .u8 2)
      replace hBY := hBY.far (p := ⟨g, 37, none⟩) (by show _ ≠ g; omega) (.int .u8 2)
      generalize w7'.setCell ⟨g, 37, none⟩ (.int .u8 2) = w8 at *
      rw [show (List.map b8 wNm).set 37 (.int .u8 2) = wN2.map b8 from rfl] at o8
      have R45 : Rb w8 (some ⟨g, 0, none⟩) 45 (wN2.take 45) := by
        have h := Reads.first (m := 45) (own_rd o8) (by omega)
        rwa [Nat.mul_one, ← List.map_take] at h
      have hB8 := hB.trans (b17.mono hB.size)
      have hg8 := Nat.le_trans hB.size hgb
      have hon := on_any 0 (by omega) _ 45 c7 _ w8 R45 (by omega)
      rw [wN2_crc] at hon
      refine hon.mono ?_
      rintro e w9 ⟨rfl, b9⟩
      replace hAT := hAT.below b9 hAT.lt
      replace hBY := hBY.below b9 hBY.lt
      replace o8 := own_call o8 b9
      have hB9 := hB8.trans (b9.mono hB8.size)
      clear R45 hon b9 hB8
      have c0 : w9.cell? ⟨g, 45, none⟩ = some (.int .u8 78) := (o8.cellAt 45 (by omega)).trans rfl
      have c1 : w9.cell? ⟨g, 46, none⟩ = some (.int .u8 184) := (o8.cellAt 46 (by omega)).trans rfl
      have c2 : w9.cell? ⟨g, 47, none⟩ = some (.int .u8 126) := (o8.cellAt 47 (by omega)).trans rfl
      have c3 : w9.cell? ⟨g, 48, none⟩ = some (.int .u8 76) := (o8.cellAt 48 (by omega)).trans rfl
      have f0 := o8.frozenAt 45
      have f1 := o8.frozenAt 46
      have f2 := o8.frozenAt 47
      have f3 := o8.frozenAt 48
      have o9 := (((o8.stored 45 (.int .u8 173)).1.stored 46 (.int .u8 191)).1.stored 47 (.int .u8 241)).1.stored 48 (.int .u8 194)
      have o10 := o9.1
      rw [show (((((wN2.map b8).set 45 (.int .u8 173)).set 46 (.int .u8 191)).set 47 (.int .u8 241)).set 48 (.int .u8 194)) = wM2.map b8 from rfl] at o10
      have hB10 := (((hB9.setCell (p := ⟨g, 45, none⟩) hg8 (.int .u8 173)).setCell (p := ⟨g, 46, none⟩) hg8 (.int .u8 191)).setCell (p := ⟨g, 47, none⟩) hg8 (.int .u8 241)).setCell (p := ⟨g, 48, none⟩) hg8 (.int .u8 194)
      replace hAT := (((hAT.far (p := ⟨g, 45, none⟩) (by show _ ≠ g; omega) (.int .u8 173)).far (p := ⟨g, 46, none⟩) (by show _ ≠ g; omega) (.int .u8 191)).far (p := ⟨g, 47, none⟩) (by show _ ≠ g; omega) (.int .u8 241)).far (p := ⟨g, 48, none⟩) (by show _ ≠ g; omega) (.int .u8 194)
      replace hBY := (((hBY.far (p := ⟨g, 45, none⟩) (by show _ ≠ g; omega) (.int .u8 173)).far (p := ⟨g, 46, none⟩) (by show _ ≠ g; omega) (.int .u8 191)).far (p := ⟨g, 47, none⟩) (by show _ ≠ g; omega) (.int .u8 241)).far (p := ⟨g, 48, none⟩) (by show _ ≠ g; omega) (.int .u8 194)
      go_wp2_with fail
      clear o9 o8 hB9 c0 c1 c2 c3 f0 f1 f2 f3
      generalize (((w9.setCell ⟨g, 45, none⟩ (.int .u8 173)).setCell ⟨g, 46, none⟩ (.int .u8 191)).setCell ⟨g, 47, none⟩ (.int .u8 241)).setCell ⟨g, 48, none⟩ (.int .u8 194) = w10 at *
      have hrd := read25_any _ 53 c7 _ w10 (own_rd o10) (by obtain ⟨h1, h2⟩ := hcp; unfold maxLen at h2; omega)
      rw [wM2_red] at hrd
      refine hrd.mono ?_
      rintro e w11 ⟨A11, c11, rfl, o11, b11⟩
      replace hAT := hAT.below b11 hAT.lt
      replace hBY := hBY.below b11 hBY.lt
      replace hB10 := hB10.trans (b11.mono hB10.size)
      clear hrd o11 b11 o10
      go_wp2_with fail
      go_roundw
      case rel => exact ⟨3, by omega, by go_num, hAT, hBY, HR.out.mv hB10, hB10⟩
      case measure => simp [intOf]
    · clear hAT hBY
      have HRR := Lib.hid R
      clear R
      have hB1 := hB.alloc hB.size (.cells #[.int .u8 87, .int .u8 82, .int .u8 67, .int .u8 75, .int .u8 1, .int .u8 8] 5)
      have R8 : Rb (wr.alloc (.cells #[.int .u8 87, .int .u8 82, .int .u8 67, .int .u8 75, .int .u8 1, .int .u8 8] 5)) (some ⟨wr.heap.size, 0, none⟩) 6 [87, 82, 67, 75, 1, 8] := reads_bytes wr [87, 82, 67, 75, 1, 8] 5
      go_wp2_with (at_builtin; refine wpList_app_z8 _ rfl (.tmp 72) (.const (.int .i64 200)) 22 3 rfl sl8 Try.underlying3 _ 6 6 200 _ (by rfl) (by rfl) R8 (by omega) (by omega) (by omega) (by decide) ?_; intro A1 c1 w1 r1 b1 hc1)
      replace hB1 := hB1.trans (b1.mono hB1.size)
      have hrd := read25_any A1 206 c1 _ w1 r1 (by obtain ⟨h1, h2⟩ := hc1; unfold maxLen at h2; omega)
      rw [show ([87, 82, 67, 75, 1, 8] : List UInt8) ++ List.replicate 200 0 = w8z from rfl, w8z_red] at hrd
      refine hrd.mono ?_
      rintro e w2 ⟨A2, c2, rfl, o2, b2⟩
      replace hB1 := hB1.trans (b2.mono hB1.size)
      clear hrd o2 b2 r1 b1 R8 hB
      have RW := HR.out.mv hB1
      go_wp2_with (refine wpList_mk1 _ rfl (.const (.int .i64 200001)) (.const (.int .i64 200001)) rfl sl8 rfl 200001 (by rfl) (by rfl) rfl rfl (by omega) ?_; intro m1 om b_; rw [rep_b8] at om)
      replace RW := RW.mv b_
      replace hB1 := hB1.trans (b_.mono hB1.size)
      have hrd := read25_any _ 200001 200001 _ m1 (own_rd om) (by omega)
      rw [red_many (by rw [List.length_replicate]; omega)] at hrd
      refine hrd.mono ?_
      rintro e k1 ⟨A2, c2, rfl, o2, b2⟩
      replace RW := RW.mv b2
      replace hB1 := hB1.trans (b2.mono hB1.size)
      clear hrd o2 b2 om b_
      go_wp2_with (refine wpList_mk1 _ rfl (.const (.int .i64 200000)) (.const (.int .i64 200000)) rfl sl8 rfl 200000 (by rfl) (by rfl) rfl rfl (by omega) ?_; intro m2 om b_; rw [rep_b8] at om)
      replace RW := RW.mv b_
      replace hB1 := hB1.trans (b_.mono hB1.size)
      have hrd := read25_any _ 200000 200000 _ m2 (own_rd om) (by omega)
      rw [red_zeros (by omega)] at hrd
      refine hrd.mono ?_
      rintro e k2 ⟨A2, c2, rfl, o2, b2⟩
      replace RW := RW.mv b2
      replace hB1 := hB1.trans (b2.mono hB1.size)
      clear hrd o2 b2 om b_
      have hk2 := hB1.size
      have oe := own_empty k2 (Nat.le_refl _) 5 1
      have hE := (Below.refl k2.heap.size k2).alloc (Nat.le_refl _) (.cells #[] 5)
      have RE := RW.mv hE
      go_wp2_with (at_builtin; first | (refine wpList_app8g (l := []) rfl (.tmp 90) (.tmp 91) _ (by rfl) sl8 k2.heap.size (by rfl) oe (by rfl) RE 53 (by omega) (by omega) hE.size ?_; intro A11 c11 w11 o11 hg_ b11; rw [List.nil_append] at o11; have b12 := hE.trans b11; replace hB1 := hB1.trans (b12.mono hB1.size); have oN := own_alloc_ (o := (.cells #[.int .u8 0] 5)) o11; have hz12 := b12.size; have RB : Rb (w11.alloc (.cells #[.int .u8 0] 5)) (some ⟨w11.heap.size, 0, none⟩) 1 [0] := reads_bytes w11 [0] 5; clear hE RE oe o11 hg_ b11 b12 RW) | (refine wpList_app8g (l := wNm) rfl (.tmp 92) (.tmp 93) _ (by rfl) sl8 k2.heap.size (by rfl) oN (by rfl) RB 54 (by simp) (by omega) (by simp <;> omega) ?_; intro A13 c13 w13 o13 hg_ b13))
      have hB2 := (hB1.alloc hB1.size (.cells #[.int .u8 0] 5)).trans (b13.mono hk2)
      have hrd := read25_any _ 54 c13 _ w13 (own_rd o13) (by obtain ⟨h1, h2⟩ := own_cap o13; unfold maxLen at h2; omega)
      rw [wMore_red] at hrd
      refine hrd.mono ?_
      rintro e w14 ⟨A14, c14, rfl, o14, b14⟩
      replace hB2 := hB2.trans (b14.mono hB2.size)
      clear hrd o14 b14 o13
      go_wp2_with fail
      go_ret
      exact ⟨rfl, hB2⟩
    · omega

end Go.Proofs.Yteaaiacgebikpaa
