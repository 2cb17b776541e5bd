/- The walk of WireBack: it returns true for every argument. -/
import Derived.Test.YtnonikeolpokkaaWireBackLaw
import Derived.Test.YtnonikeolpokkaaWireAlive
namespace Go.Proofs.Ytnonikeolpokkaa
open Go.RowKit Wire
set_option linter.unusedVariables false

set_option maxRecDepth 100000 in
set_option maxHeartbeats 4000000 in
theorem wireBack_walk (w : World) (n : Nat) (hn : n < 18446744073709551616) (i : Int) (hi : -9223372036854775808 ≤ i ∧ i ≤ 9223372036854775807) (s : ByteArray) (hs : s.size ≤ 9223372036854775807) (A : Option Addr) (m c : Nat) (l : List UInt8) (hr : Rb w A m l) (hc : m ≤ c ∧ c ≤ 9223372036854775807) :
    Calls Try.prog 9 #[.int .u64 (n : Int), .int .i64 i, .string s, .slice A m c] w fun e w' => e = .returned (.bool true) ∧ Below w.heap.size w w' := by
  have HR := Lib.hid hr
  have HL := Lib.hid hr.len8
  clear hr
  by_cases h1 : 2000 < s.size
  · have d1 : decide ((2000 : Int) < (s.size : Int)) = true := by simp; omega
    go_enter Try.func9, Try.ntmps9
    go_wp2_with (go_at_call 23; refine (alive_any _).mono ?_; rintro e w7 ⟨rfl, hb7⟩)
    go_ret
    exact ⟨rfl, hb7⟩

  have d1 : decide ((2000 : Int) < (s.size : Int)) = false := by simp; omega
  by_cases h2 : 500 < m
  · have d2 : decide ((500 : Int) < (m : Int)) = true := by simp; omega
    go_enter Try.func9, Try.ntmps9
    go_wp2_with (go_at_call 23; refine (alive_any _).mono ?_; rintro e w7 ⟨rfl, hb7⟩)
    go_ret
    exact ⟨rfl, hb7⟩

  have d2 : decide ((500 : Int) < (m : Int)) = false := by simp; omega
  obtain ⟨L, J2, J3, J4, e0, e1, e2, e3, e4, e5, f1, f2, f3, f4⟩ := bk_all n hn i hi s (by omega) l (by rw [HL.out]; omega)
  rw [HL.out] at e1
  have hN : L.length = J4 + m := e1
  have HF := Lib.hid (fun A c W (h : Rb W A (J4 + m) L) (hc : J4 + m ≤ c) => unfixed_any A (J4 + m) c L 0 8 W h (by omega) hc (by omega) (by omega))
  have HU := Lib.hid (fun A c W (h : Rb W A (J4 + m) L) => unvary_any A (J4 + m) c L 8 n W h (by omega) hn (by omega))
  have HS := Lib.hid (fun A c W (h : Rb W A (J4 + m) L) => unsigned_any A (J4 + m) c L (J2 : Int) W h (by omega) (by omega))
  have HT := Lib.hid (fun A c W (h : Rb W A (J4 + m) L) (hc : J4 + m ≤ c) => untext_any A (J4 + m) c L (J3 : Int) (s.size : Int) W h (by omega) hc (by omega) (by omega))
  have HLF := Lib.hid (fun A c W => left_any A (J4 + m) c (J4 : Int) W (by omega))
  have hlf1 : lfN (J4 + m) (J4 : Int) = (m : Int) := by unfold lfN; rw [if_pos (ck_yes (by omega) (by omega))]; omega
  have hlf2 : ckE (J4 + m) (J4 : Int) = 0 := by unfold ckE; rw [if_pos (ck_yes (by omega) (by omega))]
  have HFX := Lib.hid (fixed_any n 8 (by omega) hn w)
  rw [show fxL n 8 = ltl 8 n from (fx_yes (show fxB n 8 = true from by simp [fxB]; exact ⟨rfl, hn⟩)).1, show fxE n 8 = 0 from (fx_yes (show fxB n 8 = true from by simp [fxB]; exact ⟨rfl, hn⟩)).2, ltl_len] at HFX
  have HTX := Lib.hid (fun W => text_any s hs W)
  rw [show txE s = 0 from if_pos (by omega)] at HTX
  have HVY := Lib.hid (fun W => vary_any n hn W)
  have HSG := Lib.hid (fun W => signed_any i hi W)
  have HNW := Lib.hid (fun A c W (h : Rb W A (J4 + m) L) => new_any A (J4 + m) c L W h (by omega))
  rw [show nwL L = L from if_pos (by omega), show nwE L = 0 from if_pos (by omega), hN] at HNW
  have F1 := Lib.hid f1
  have F2 := Lib.hid f2
  have F3 := Lib.hid f3
  have F4 := Lib.hid f4
  have E0 := Lib.hid e0
  have E3 := Lib.hid e3
  have E4 := Lib.hid e4
  have E5 := Lib.hid e5
  have HL1 := Lib.hid hlf1
  have HL2 := Lib.hid hlf2
  have q2 : J2 ≤ 3000 := by omega
  have q3 : J3 ≤ 3000 := by omega
  clear f1 f2 f3 f4 e0 e1 e3 e4 e5 hN hlf1 hlf2 hi
  go_enter Try.func9, Try.ntmps9
  go_wp2_with fail
  refine HFX.out.mono ?_
  rintro e w1 ⟨A1, c1, rfl, o1, b⟩
  have R1 := own_rd o1
  have hB := b
  have R := HR.out.below b
  clear o1 b
  go_wp2_with fail
  refine (HTX.out _).mono ?_
  rintro e w2 ⟨A2, c2, rfl, o2, b⟩
  have R2 := own_rd o2
  replace R1 := R1.mv b
  replace R := (R.more hB.size).mv b
  have hB0 := hB.trans (b.mono hB.size)
  clear o2 b hB
  have b0 : Below w2.heap.size w2 (w2.alloc (.cells #[] 5)) := Ext.al w2 _
  generalize vry n = X2 at *
  generalize vry (dbl i) = X3 at *
  generalize txL s = X4 at *
  generalize ltl 8 n = X1 at *
  go_wp2_with (at_builtin; refine wpList_app8 rfl (.tmp 49) (.tmp 50) _ rfl sl8 w2.heap.size (l := []) rfl (own_empty_at rfl (Nat.le_refl _) _ _) rfl (R1.below b0) 8 rfl (by omega) (by simp) ?_; intro A3 c3 w3 o3 b3)
  replace b3 := b0.trans b3
  refine (HVY.out _).mono ?_
  rintro e w4 ⟨A4, c4, rfl, o4, b⟩
  have R4 := own_rd o4
  replace b3 := b3.trans (b.mono b3.size)
  replace o3 := own_call o3 b
  clear o4 b b0
  go_wp2_with (at_builtin; refine wpList_app8 rfl (.tmp 51) (.tmp 53) _ rfl sl8 w2.heap.size rfl o3 rfl R4 J2 E3.out (by omega) b3.size ?_; intro A5 c5 w5 o5 b5)
  replace b5 := b3.trans b5
  refine (HSG.out _).mono ?_
  rintro e w6 ⟨A6, c6, rfl, o6, b⟩
  have R6 := own_rd o6
  replace b5 := b5.trans (b.mono b5.size)
  replace o5 := own_call o5 b
  clear o6 b o3 b3 R4
  go_wp2_with (first
    | (at_builtin; refine wpList_app8 rfl (.tmp 61) (.tmp 62) _ rfl sl8 w2.heap.size rfl o8 rfl (R.below q8) (J4 + m) rfl (by omega) q8.size ?_; intro A9 c9 w9 o9 b9; replace b9 := q8.trans b9)
    | (at_builtin; refine wpList_app8 rfl (.tmp 57) (.tmp 58) _ rfl sl8 w2.heap.size rfl o7 rfl (R2.below b7) J4 E5.out (by omega) b7.size ?_; intro A8 c8 w8 o8 q8; replace q8 := b7.trans q8)
    | (at_builtin; refine wpList_app8 rfl (.tmp 54) (.tmp 56) _ rfl sl8 w2.heap.size rfl o5 rfl R6 J3 E4.out (by omega) b5.size ?_; intro A7 c7 w7 o7 b7; replace b7 := b5.trans b7))
  rw [E0.out] at o9
  have hB := hB0.trans (b9.mono hB0.size)
  have R9 := own_rd o9
  clear q8 b7 b5 o8 o7 o5 R R1 R2 R6 HR E0 E3 E4 E5 hB0 b9 o9
  refine (HNW.out _ _ _ R9).mono ?_
  rintro e w10 ⟨A0, c0, rfl, o, b⟩
  have RL := own_rd o
  have hc0 := (own_cap o).1
  replace hB := hB.trans (b.mono hB.size)
  clear o b R9
  have hBt := hB
  clear hB
  obtain ⟨Z, hZ⟩ : ∃ Z, Z = w10.heap.size := ⟨_, rfl⟩
  have hS : Z ≤ w10.heap.size := Nat.le_of_eq hZ
  have hBZ : w.heap.size ≤ Z := hZ ▸ hBt.size
  replace RL : RdB w10 Z A0 (J4 + m) L := hZ ▸ RL
  have hB := Below.refl Z w10
  clear hZ
  have b := Ext.al w10 (.cells #[.slice A0 (J4 + m) c0, .int .i64 (0)] 33)
  have h14 := Blk.new w10 33 #[.slice A0 (J4 + m) c0, .int .i64 (0)]
  replace RL := RL.below (b.mono hS)
  replace hB := hB.trans (b.mono hS)
  replace hS := Nat.le_trans hS b.size
  clear b
  have z1 : (w10.alloc (.cells #[.slice A0 (J4 + m) c0, .int .i64 (0)] 33)).cell? ⟨w10.heap.size, 0, none⟩ = some (.slice A0 (J4 + m) c0) := (h14.cell 0).trans rfl
  have z2 : (w10.alloc (.cells #[.slice A0 (J4 + m) c0, .int .i64 (0)] 33)).cell? ⟨w10.heap.size, 1, none⟩ = some (.int .i64 (0)) := (h14.cell 1).trans rfl
  go_wp2_with fail
  clear z1 z2
  generalize w10.alloc (.cells #[.slice A0 (J4 + m) c0, .int .i64 (0)] 33) = w11 at *
  generalize w10.heap.size = p14 at *
  refine (HF.out _ _ _ (RL.more hS) hc0).mono ?_
  rintro e w12 ⟨rfl, b⟩
  replace RL := RL.below (b.mono hS)
  replace h14 := h14.below b h14.lt
  replace hB := hB.trans (b.mono hS)
  replace hS := Nat.le_trans hS b.size
  clear b
  rw [(F1.out A0 (J4 + m) c0).1, (F1.out A0 (J4 + m) c0).2.1, (F1.out A0 (J4 + m) c0).2.2]
  have b := Ext.al w12 (.cells #[.slice A0 (J4 + m) c0, .int .i64 (8)] 33)
  have h16 := Blk.new w12 33 #[.slice A0 (J4 + m) c0, .int .i64 (8)]
  have o_h14_h16 := h14.lt
  replace RL := RL.below (b.mono hS)
  replace h14 := h14.below b h14.lt
  replace hB := hB.trans (b.mono hS)
  replace hS := Nat.le_trans hS b.size
  clear b
  have z3 : (w12.alloc (.cells #[.slice A0 (J4 + m) c0, .int .i64 (8)] 33)).cell? ⟨w12.heap.size, 0, none⟩ = some (.slice A0 (J4 + m) c0) := (h16.cell 0).trans rfl
  have z4 : (w12.alloc (.cells #[.slice A0 (J4 + m) c0, .int .i64 (8)] 33)).cell? ⟨w12.heap.size, 1, none⟩ = some (.int .i64 (8)) := (h16.cell 1).trans rfl
  go_wp2_with fail
  clear z3 z4
  generalize w12.alloc (.cells #[.slice A0 (J4 + m) c0, .int .i64 (8)] 33) = w13 at *
  generalize w12.heap.size = p16 at *
  refine (HU.out _ _ _ (RL.more hS)).mono ?_
  rintro e w14 ⟨rfl, b⟩
  replace RL := RL.below (b.mono hS)
  replace h14 := h14.below b h14.lt
  replace h16 := h16.below b h16.lt
  replace hB := hB.trans (b.mono hS)
  replace hS := Nat.le_trans hS b.size
  clear b
  rw [(F2.out A0 (J4 + m) c0).1, (F2.out A0 (J4 + m) c0).2.1, (F2.out A0 (J4 + m) c0).2.2]
  have b := Ext.al w14 (.cells #[.slice A0 (J4 + m) c0, .int .i64 ((J2 : Int))] 33)
  have h19 := Blk.new w14 33 #[.slice A0 (J4 + m) c0, .int .i64 ((J2 : Int))]
  have o_h14_h19 := h14.lt
  have o_h16_h19 := h16.lt
  replace RL := RL.below (b.mono hS)
  replace h14 := h14.below b h14.lt
  replace h16 := h16.below b h16.lt
  replace hB := hB.trans (b.mono hS)
  replace hS := Nat.le_trans hS b.size
  clear b
  have z5 : (w14.alloc (.cells #[.slice A0 (J4 + m) c0, .int .i64 ((J2 : Int))] 33)).cell? ⟨w14.heap.size, 0, none⟩ = some (.slice A0 (J4 + m) c0) := (h19.cell 0).trans rfl
  have z6 : (w14.alloc (.cells #[.slice A0 (J4 + m) c0, .int .i64 ((J2 : Int))] 33)).cell? ⟨w14.heap.size, 1, none⟩ = some (.int .i64 ((J2 : Int))) := (h19.cell 1).trans rfl
  go_wp2_with fail
  clear z5 z6
  generalize w14.alloc (.cells #[.slice A0 (J4 + m) c0, .int .i64 ((J2 : Int))] 33) = w15 at *
  generalize w14.heap.size = p19 at *
  refine (HS.out _ _ _ (RL.more hS)).mono ?_
  rintro e w16 ⟨rfl, b⟩
  replace RL := RL.below (b.mono hS)
  replace h14 := h14.below b h14.lt
  replace h16 := h16.below b h16.lt
  replace h19 := h19.below b h19.lt
  replace hB := hB.trans (b.mono hS)
  replace hS := Nat.le_trans hS b.size
  clear b
  rw [(F3.out A0 (J4 + m) c0).1, (F3.out A0 (J4 + m) c0).2.1, (F3.out A0 (J4 + m) c0).2.2]
  have b := Ext.al w16 (.cells #[.slice A0 (J4 + m) c0, .int .i64 ((J3 : Int))] 33)
  have h22 := Blk.new w16 33 #[.slice A0 (J4 + m) c0, .int .i64 ((J3 : Int))]
  have o_h14_h22 := h14.lt
  have o_h16_h22 := h16.lt
  have o_h19_h22 := h19.lt
  replace RL := RL.below (b.mono hS)
  replace h14 := h14.below b h14.lt
  replace h16 := h16.below b h16.lt
  replace h19 := h19.below b h19.lt
  replace hB := hB.trans (b.mono hS)
  replace hS := Nat.le_trans hS b.size
  clear b
  have z7 : (w16.alloc (.cells #[.slice A0 (J4 + m) c0, .int .i64 ((J3 : Int))] 33)).cell? ⟨w16.heap.size, 0, none⟩ = some (.slice A0 (J4 + m) c0) := (h22.cell 0).trans rfl
  have z8 : (w16.alloc (.cells #[.slice A0 (J4 + m) c0, .int .i64 ((J3 : Int))] 33)).cell? ⟨w16.heap.size, 1, none⟩ = some (.int .i64 ((J3 : Int))) := (h22.cell 1).trans rfl
  go_wp2_with fail
  clear z7 z8
  generalize w16.alloc (.cells #[.slice A0 (J4 + m) c0, .int .i64 ((J3 : Int))] 33) = w17 at *
  generalize w16.heap.size = p22 at *
  refine (HT.out _ _ _ (RL.more hS) hc0).mono ?_
  rintro e w18 ⟨rfl, b⟩
  replace RL := RL.below (b.mono hS)
  replace h14 := h14.below b h14.lt
  replace h16 := h16.below b h16.lt
  replace h19 := h19.below b h19.lt
  replace h22 := h22.below b h22.lt
  replace hB := hB.trans (b.mono hS)
  replace hS := Nat.le_trans hS b.size
  clear b
  rw [(F4.out A0 (J4 + m) c0).1, (F4.out A0 (J4 + m) c0).2.1, (F4.out A0 (J4 + m) c0).2.2]
  have b := Ext.al w18 (.cells #[.slice A0 (J4 + m) c0, .int .i64 ((J4 : Int))] 33)
  have h25 := Blk.new w18 33 #[.slice A0 (J4 + m) c0, .int .i64 ((J4 : Int))]
  have o_h14_h25 := h14.lt
  have o_h16_h25 := h16.lt
  have o_h19_h25 := h19.lt
  have o_h22_h25 := h22.lt
  replace RL := RL.below (b.mono hS)
  replace h14 := h14.below b h14.lt
  replace h16 := h16.below b h16.lt
  replace h19 := h19.below b h19.lt
  replace h22 := h22.below b h22.lt
  replace hB := hB.trans (b.mono hS)
  replace hS := Nat.le_trans hS b.size
  clear b
  have z9 : (w18.alloc (.cells #[.slice A0 (J4 + m) c0, .int .i64 ((J4 : Int))] 33)).cell? ⟨w18.heap.size, 0, none⟩ = some (.slice A0 (J4 + m) c0) := (h25.cell 0).trans rfl
  have z10 : (w18.alloc (.cells #[.slice A0 (J4 + m) c0, .int .i64 ((J4 : Int))] 33)).cell? ⟨w18.heap.size, 1, none⟩ = some (.int .i64 ((J4 : Int))) := (h25.cell 1).trans rfl
  go_wp2_with fail
  clear z9 z10
  generalize w18.alloc (.cells #[.slice A0 (J4 + m) c0, .int .i64 ((J4 : Int))] 33) = w19 at *
  generalize w18.heap.size = p25 at *
  refine (HLF.out _ _ _).mono ?_
  rintro e w20 ⟨rfl, b⟩
  replace RL := RL.below (b.mono hS)
  replace h14 := h14.below b h14.lt
  replace h16 := h16.below b h16.lt
  replace h19 := h19.below b h19.lt
  replace h22 := h22.below b h22.lt
  replace h25 := h25.below b h25.lt
  replace hB := hB.trans (b.mono hS)
  replace hS := Nat.le_trans hS b.size
  clear b
  rw [HL1.out, HL2.out]
  go_wp2_with fail
  refine (alive_any _).mono ?_
  rintro e w21 ⟨rfl, b⟩
  replace RL := RL.below (b.mono hS)
  replace h14 := h14.below b h14.lt
  replace h16 := h16.below b h16.lt
  replace h19 := h19.below b h19.lt
  replace h22 := h22.below b h22.lt
  replace h25 := h25.below b h25.lt
  replace hB := hB.trans (b.mono hS)
  replace hS := Nat.le_trans hS b.size
  clear b
  go_wp2_with fail
  go_ret
  exact ⟨rfl, hBt.trans (hB.mono hBZ)⟩

end Go.Proofs.Ytnonikeolpokkaa
