/- The walk of ScriptOne. -/
import Derived.Test.YtgobebiagpejkaaScrLaw2
import Derived.Test.YtgobebiagpejkaaScriptCuts
namespace Go.Proofs.Ytgobebiagpejkaa
open Go.RowKit Wire
set_option linter.unusedVariables false

set_option maxRecDepth 100000 in
set_option maxHeartbeats 8000000 in
theorem scriptOne_walk (w : World) (A : Option Addr) (n c : Nat) (l : List Int) (st sk hp rt : Int) (hr : RdI w w.heap.size A n l) (hc : n ≤ c ∧ c ≤ 9223372036854775807) (hst : -9223372036854775808 ≤ st ∧ st ≤ 9223372036854775807) (hsk : -9223372036854775808 ≤ sk ∧ sk ≤ 9223372036854775807) (hhp : -9223372036854775808 ≤ hp ∧ hp ≤ 9223372036854775807) (hrt : -9223372036854775808 ≤ rt ∧ rt ≤ 9223372036854775807) (BA : Option Addr) (bn bc : Nat) (bl : List UInt8) (hrb : Rb w BA bn bl) (hbc : bn ≤ bc ∧ bc ≤ 9223372036854775807) :
    Calls Try.prog 7 #[scr A n c st sk hp rt, .slice BA bn bc] w fun e w' => e = .returned (.bool true) ∧ Below w.heap.size w w' := by
  have hB : Below w.heap.size w (w.alloc (.cells #[.slice A n c, .int .i64 st, .int .i64 sk, .int .i64 hp, .int .i64 rt] 31)) := Ext.al w _
  have hk := Blk.new w 31 #[.slice A n c, .int .i64 st, .int .i64 sk, .int .i64 hp, .int .i64 rt]
  have R := hr.mv hB
  have RB := hrb.mv hB
  have HL := Lib.hid hr.lenI
  have HLB := Lib.hid hrb.len8
  clear hr hrb
  have hn' : n ≤ 9223372036854775807 := by omega
  by_cases hg : grB n = true
  · have HG := Lib.hid hg
    clear hg
    go_enter Try.func7, Try.ntmps7
    go_wp2_with fail
    refine (great11_any A n c st sk hp rt _).mono ?_
    rintro e w2 ⟨rfl, b⟩
    rw [HG.out]
    replace hk := hk.below b hk.lt
    replace R := R.mv b
    replace RB := RB.mv b
    replace hB := hB.trans (b.mono hB.size)
    clear b

    go_wp2_with (go_at_call 11; refine (alive11_any _).mono ?_; rintro e w7 ⟨rfl, hb7⟩)
    go_ret
    exact ⟨rfl, hB.trans (hb7.mono hB.size)⟩

  have HG := Lib.hid (show grB n = false from by simpa using hg)
  clear hg
  by_cases hbl : 1000 < bn
  · have d0 : decide ((1000 : Int) < (bn : Int)) = true := by simp; omega
    go_enter Try.func7, Try.ntmps7
    go_wp2_with fail
    refine (great11_any A n c st sk hp rt _).mono ?_
    rintro e w2 ⟨rfl, b⟩
    rw [HG.out]
    replace hk := hk.below b hk.lt
    replace R := R.mv b
    replace RB := RB.mv b
    replace hB := hB.trans (b.mono hB.size)
    clear b

    go_wp2_with (go_at_call 11; refine (alive11_any _).mono ?_; rintro e w7 ⟨rfl, hb7⟩)
    go_ret
    exact ⟨rfl, hB.trans (hb7.mono hB.size)⟩

  have d0 : decide ((1000 : Int) < (bn : Int)) = false := by simp; omega
  have HE := Lib.hid (fun W (h : RdI W W.heap.size A n l) => encode11_any A n c l st sk hp rt W h hn')
  have HCK := Lib.hid (fun W (h : RdI W W.heap.size A n l) => check11_any A n c l st sk hp rt W h hn')
  cases hs : scB st sk hp rt l
  · have HV1 := Lib.hid (show enL st sk hp rt l = [] from by simp [enL, hs])
    have HV2 := Lib.hid (show scE st sk hp rt l = 8 from by simp [scE, hs])
    rw [HV1.out, HV2.out] at HE
    rw [HV2.out] at HCK
    clear hs
    go_enter Try.func7, Try.ntmps7
    go_wp2_with fail
    refine (great11_any A n c st sk hp rt _).mono ?_
    rintro e w2 ⟨rfl, b⟩
    rw [HG.out]
    replace hk := hk.below b hk.lt
    replace R := R.mv b
    replace RB := RB.mv b
    replace hB := hB.trans (b.mono hB.size)
    clear b
    have z1 : w2.cell? ⟨w.heap.size, 0, none⟩ = some (.slice A n c) := (hk.cell 0).trans rfl
    have z2 : w2.cell? ⟨w.heap.size, 1, none⟩ = some (.int .i64 st) := (hk.cell 1).trans rfl
    have z3 : w2.cell? ⟨w.heap.size, 2, none⟩ = some (.int .i64 sk) := (hk.cell 2).trans rfl
    have z4 : w2.cell? ⟨w.heap.size, 3, none⟩ = some (.int .i64 hp) := (hk.cell 3).trans rfl
    have z5 : w2.cell? ⟨w.heap.size, 4, none⟩ = some (.int .i64 rt) := (hk.cell 4).trans rfl
    go_wp2_with fail
    clear z1 z2 z3 z4 z5
    refine (HE.out _ R).mono ?_
    rintro e w3 ⟨A3, c3, rfl, o3, b⟩
    clear o3
    replace R := R.mv b
    replace RB := RB.mv b
    replace hk := hk.below b hk.lt
    replace hB := hB.trans (b.mono hB.size)
    clear b
    have z6 : w3.cell? ⟨w.heap.size, 0, none⟩ = some (.slice A n c) := (hk.cell 0).trans rfl
    have z7 : w3.cell? ⟨w.heap.size, 1, none⟩ = some (.int .i64 st) := (hk.cell 1).trans rfl
    have z8 : w3.cell? ⟨w.heap.size, 2, none⟩ = some (.int .i64 sk) := (hk.cell 2).trans rfl
    have z9 : w3.cell? ⟨w.heap.size, 3, none⟩ = some (.int .i64 hp) := (hk.cell 3).trans rfl
    have z10 : w3.cell? ⟨w.heap.size, 4, none⟩ = some (.int .i64 rt) := (hk.cell 4).trans rfl
    go_wp2_with fail
    clear z6 z7 z8 z9 z10
    refine (HCK.out _ R).mono ?_
    rintro e w4 ⟨rfl, b⟩
    replace R := R.mv b
    replace RB := RB.mv b
    replace hk := hk.below b hk.lt
    replace hB := hB.trans (b.mono hB.size)
    clear b
    go_wp2_with fail
    refine (decode_cases BA bn bc bl _ RB hbc.1).mono ?_
    rintro e u1 ⟨hpost, b⟩
    replace R := R.mv b
    replace RB := RB.mv b
    replace hk := hk.below b hk.lt
    replace hB := hB.trans (b.mono hB.size)
    clear b
    rcases hpost with ⟨st2, sk2, hp2, rt2, ps, A5, c5, hv, rfl, R5, hc5⟩ | ⟨e0, A5, c5, he0, _, _, rfl, R5⟩
    rotate_left
    · have de : (e0 != 0) = true := by rw [bne_iff_ne]; exact he0
      have b := Ext.al u1 (.cells #[.slice A5 0 c5, .int .i64 0, .int .i64 0, .int .i64 0, .int .i64 0] 31)
      have h9 := Blk.new u1 31 #[.slice A5 0 c5, .int .i64 0, .int .i64 0, .int .i64 0, .int .i64 0]
      have o_hk_h9 := hk.lt
      replace R := R.mv b
      replace RB := RB.mv b
      replace R5 := R5.mv b
      replace hk := hk.below b hk.lt
      replace hB := hB.trans (b.mono hB.size)
      clear b
      go_wp2_with fail
      generalize u1.alloc (.cells #[.slice A5 0 c5, .int .i64 0, .int .i64 0, .int .i64 0, .int .i64 0] 31) = u2 at *
      generalize u1.heap.size = p9 at *
      refine (alive11_any _).mono ?_
      rintro e u3 ⟨rfl, b⟩
      replace R := R.mv b
      replace RB := RB.mv b
      replace R5 := R5.mv b
      replace hk := hk.below b hk.lt
      replace h9 := h9.below b h9.lt
      replace hB := hB.trans (b.mono hB.size)
      clear b
      go_wp2_with fail
      go_ret
      exact ⟨rfl, hB⟩
    have hps : ps.length ≤ 9223372036854775807 := by have := (sc_parts hv.1).2.2.2.2.1; omega
    have HE5 := Lib.hid (fun W (h : RdI W W.heap.size A5 ps.length ps) => encode11_any A5 ps.length c5 ps st2 sk2 hp2 rt2 W h hps)
    have HV1 := Lib.hid (show enL st2 sk2 hp2 rt2 ps = bl from by unfold enL; rw [if_pos hv.1, hv.2])
    have HV2 := Lib.hid (sc_ok hv.1)
    rw [HV1.out, HV2.out, HLB.out] at HE5
    clear hv HV1 HV2
    have b := Ext.al u1 (.cells #[.slice A5 ps.length c5, .int .i64 st2, .int .i64 sk2, .int .i64 hp2, .int .i64 rt2] 31)
    have h9 := Blk.new u1 31 #[.slice A5 ps.length c5, .int .i64 st2, .int .i64 sk2, .int .i64 hp2, .int .i64 rt2]
    have o_hk_h9 := hk.lt
    replace R := R.mv b
    replace RB := RB.mv b
    replace R5 := R5.mv b
    replace hk := hk.below b hk.lt
    replace hB := hB.trans (b.mono hB.size)
    clear b
    have z11 : (u1.alloc (.cells #[.slice A5 ps.length c5, .int .i64 st2, .int .i64 sk2, .int .i64 hp2, .int .i64 rt2] 31)).cell? ⟨u1.heap.size, 0, none⟩ = some (.slice A5 ps.length c5) := (h9.cell 0).trans rfl
    have z12 : (u1.alloc (.cells #[.slice A5 ps.length c5, .int .i64 st2, .int .i64 sk2, .int .i64 hp2, .int .i64 rt2] 31)).cell? ⟨u1.heap.size, 1, none⟩ = some (.int .i64 st2) := (h9.cell 1).trans rfl
    have z13 : (u1.alloc (.cells #[.slice A5 ps.length c5, .int .i64 st2, .int .i64 sk2, .int .i64 hp2, .int .i64 rt2] 31)).cell? ⟨u1.heap.size, 2, none⟩ = some (.int .i64 sk2) := (h9.cell 2).trans rfl
    have z14 : (u1.alloc (.cells #[.slice A5 ps.length c5, .int .i64 st2, .int .i64 sk2, .int .i64 hp2, .int .i64 rt2] 31)).cell? ⟨u1.heap.size, 3, none⟩ = some (.int .i64 hp2) := (h9.cell 3).trans rfl
    have z15 : (u1.alloc (.cells #[.slice A5 ps.length c5, .int .i64 st2, .int .i64 sk2, .int .i64 hp2, .int .i64 rt2] 31)).cell? ⟨u1.heap.size, 4, none⟩ = some (.int .i64 rt2) := (h9.cell 4).trans rfl
    go_wp2_with fail
    clear z11 z12 z13 z14 z15
    generalize u1.alloc (.cells #[.slice A5 ps.length c5, .int .i64 st2, .int .i64 sk2, .int .i64 hp2, .int .i64 rt2] 31) = u2 at *
    generalize u1.heap.size = p9 at *
    refine (HE5.out _ R5).mono ?_
    rintro e u3 ⟨A6, c6, rfl, o6, b⟩
    have R6 : Rb u3 A6 bn bl := own_rd o6
    clear o6
    replace R := R.mv b
    replace RB := RB.mv b
    replace R5 := R5.mv b
    replace hk := hk.below b hk.lt
    replace h9 := h9.below b h9.lt
    replace hB := hB.trans (b.mono hB.size)
    clear b
    have K1 := cvS c6 R6
    have K2 := cvS bc RB
    go_wp2_with fail
    refine (alive11_any _).mono ?_
    rintro e u4 ⟨rfl, b⟩
    replace R := R.mv b
    replace RB := RB.mv b
    replace R5 := R5.mv b
    replace hk := hk.below b hk.lt
    replace h9 := h9.below b h9.lt
    replace hB := hB.trans (b.mono hB.size)
    clear b
    go_wp2_with fail
    go_ret
    exact ⟨rfl, hB⟩
  · have hn2 : n ≤ 300 := by
      have h1 := (sc_parts hs).2.2.2.2.1
      have h := HG.out
      simp [grB] at h
      rw [HL.out] at h1
      omega
    have HV1 := Lib.hid (show enL st sk hp rt l = cod (fullL st sk hp rt l) from by unfold enL; rw [if_pos hs])
    have HV2 := Lib.hid (sc_ok hs)
    rw [HV1.out, HV2.out] at HE
    rw [HV2.out] at HCK
    have hcl : (cod (fullL st sk hp rt l)).length ≤ 6100 := by
      have h := cod_len (fullL st sk hp rt l)
      have h2 : (fullL st sk hp rt l).length = 5 + n := by rw [fullL, List.length_append, HL.out]; rfl
      omega
    have HDO := Lib.hid (fun A2 m c2 W (h : Rb W A2 m (cod (fullL st sk hp rt l))) (hm : m ≤ c2) (hm2 : m ≤ 6100) => decode_ok A2 m c2 _ st sk hp rt l W h hm hm2 hs rfl)
    rw [HL.out] at HDO
    clear hs
    generalize cod (fullL st sk hp rt l) = cl at *
    go_enter Try.func7, Try.ntmps7
    go_wp2_with fail
    refine (great11_any A n c st sk hp rt _).mono ?_
    rintro e w2 ⟨rfl, b⟩
    rw [HG.out]
    replace hk := hk.below b hk.lt
    replace R := R.mv b
    replace RB := RB.mv b
    replace hB := hB.trans (b.mono hB.size)
    clear b
    have z1 : w2.cell? ⟨w.heap.size, 0, none⟩ = some (.slice A n c) := (hk.cell 0).trans rfl
    have z2 : w2.cell? ⟨w.heap.size, 1, none⟩ = some (.int .i64 st) := (hk.cell 1).trans rfl
    have z3 : w2.cell? ⟨w.heap.size, 2, none⟩ = some (.int .i64 sk) := (hk.cell 2).trans rfl
    have z4 : w2.cell? ⟨w.heap.size, 3, none⟩ = some (.int .i64 hp) := (hk.cell 3).trans rfl
    have z5 : w2.cell? ⟨w.heap.size, 4, none⟩ = some (.int .i64 rt) := (hk.cell 4).trans rfl
    go_wp2_with fail
    clear z1 z2 z3 z4 z5
    refine (HE.out _ R).mono ?_
    rintro e w3 ⟨A3, c3, rfl, o3, b⟩
    have R3 := own_rd o3
    have hc3 := (own_cap o3).1
    clear o3
    replace R := R.mv b
    replace RB := RB.mv b
    replace hk := hk.below b hk.lt
    replace hB := hB.trans (b.mono hB.size)
    clear b
    have z6 : w3.cell? ⟨w.heap.size, 0, none⟩ = some (.slice A n c) := (hk.cell 0).trans rfl
    have z7 : w3.cell? ⟨w.heap.size, 1, none⟩ = some (.int .i64 st) := (hk.cell 1).trans rfl
    have z8 : w3.cell? ⟨w.heap.size, 2, none⟩ = some (.int .i64 sk) := (hk.cell 2).trans rfl
    have z9 : w3.cell? ⟨w.heap.size, 3, none⟩ = some (.int .i64 hp) := (hk.cell 3).trans rfl
    have z10 : w3.cell? ⟨w.heap.size, 4, none⟩ = some (.int .i64 rt) := (hk.cell 4).trans rfl
    go_wp2_with fail
    clear z6 z7 z8 z9 z10
    refine (HCK.out _ R).mono ?_
    rintro e w4 ⟨rfl, b⟩
    replace R := R.mv b
    replace RB := RB.mv b
    replace R3 := R3.mv b
    replace hk := hk.below b hk.lt
    replace hB := hB.trans (b.mono hB.size)
    clear b
    go_wp2_with fail
    refine (HDO.out _ _ _ _ R3 hc3 hcl).mono ?_
    rintro e w5 ⟨A4, c4, rfl, R4, b⟩
    replace R := R.mv b
    replace RB := RB.mv b
    replace R3 := R3.mv b
    replace hk := hk.below b hk.lt
    replace hB := hB.trans (b.mono hB.size)
    clear b
    have b := Ext.al w5 (.cells #[.slice A4 n c4, .int .i64 st, .int .i64 sk, .int .i64 hp, .int .i64 rt] 31)
    have h7 := Blk.new w5 31 #[.slice A4 n c4, .int .i64 st, .int .i64 sk, .int .i64 hp, .int .i64 rt]
    have o_hk_h7 := hk.lt
    replace R := R.mv b
    replace RB := RB.mv b
    replace R3 := R3.mv b
    replace R4 := R4.mv b
    replace hk := hk.below b hk.lt
    replace hB := hB.trans (b.mono hB.size)
    clear b
    have z11 : (w5.alloc (.cells #[.slice A4 n c4, .int .i64 st, .int .i64 sk, .int .i64 hp, .int .i64 rt] 31)).cell? ⟨w5.heap.size, 0, none⟩ = some (.slice A4 n c4) := (h7.cell 0).trans rfl
    have z12 : (w5.alloc (.cells #[.slice A4 n c4, .int .i64 st, .int .i64 sk, .int .i64 hp, .int .i64 rt] 31)).cell? ⟨w5.heap.size, 1, none⟩ = some (.int .i64 st) := (h7.cell 1).trans rfl
    have z13 : (w5.alloc (.cells #[.slice A4 n c4, .int .i64 st, .int .i64 sk, .int .i64 hp, .int .i64 rt] 31)).cell? ⟨w5.heap.size, 2, none⟩ = some (.int .i64 sk) := (h7.cell 2).trans rfl
    have z14 : (w5.alloc (.cells #[.slice A4 n c4, .int .i64 st, .int .i64 sk, .int .i64 hp, .int .i64 rt] 31)).cell? ⟨w5.heap.size, 3, none⟩ = some (.int .i64 hp) := (h7.cell 3).trans rfl
    have z15 : (w5.alloc (.cells #[.slice A4 n c4, .int .i64 st, .int .i64 sk, .int .i64 hp, .int .i64 rt] 31)).cell? ⟨w5.heap.size, 4, none⟩ = some (.int .i64 rt) := (h7.cell 4).trans rfl
    have z16 : (w5.alloc (.cells #[.slice A4 n c4, .int .i64 st, .int .i64 sk, .int .i64 hp, .int .i64 rt] 31)).cell? ⟨w.heap.size, 0, none⟩ = some (.slice A n c) := (hk.cell 0).trans rfl
    have z17 : (w5.alloc (.cells #[.slice A4 n c4, .int .i64 st, .int .i64 sk, .int .i64 hp, .int .i64 rt] 31)).cell? ⟨w.heap.size, 1, none⟩ = some (.int .i64 st) := (hk.cell 1).trans rfl
    have z18 : (w5.alloc (.cells #[.slice A4 n c4, .int .i64 st, .int .i64 sk, .int .i64 hp, .int .i64 rt] 31)).cell? ⟨w.heap.size, 2, none⟩ = some (.int .i64 sk) := (hk.cell 2).trans rfl
    have z19 : (w5.alloc (.cells #[.slice A4 n c4, .int .i64 st, .int .i64 sk, .int .i64 hp, .int .i64 rt] 31)).cell? ⟨w.heap.size, 3, none⟩ = some (.int .i64 hp) := (hk.cell 3).trans rfl
    have z20 : (w5.alloc (.cells #[.slice A4 n c4, .int .i64 st, .int .i64 sk, .int .i64 hp, .int .i64 rt] 31)).cell? ⟨w.heap.size, 4, none⟩ = some (.int .i64 rt) := (hk.cell 4).trans rfl
    go_wp2_with fail
    clear z11 z12 z13 z14 z15 z16 z17 z18 z19 z20
    generalize w5.alloc (.cells #[.slice A4 n c4, .int .i64 st, .int .i64 sk, .int .i64 hp, .int .i64 rt] 31) = w6 at *
    generalize w5.heap.size = p7 at *
    refine (same11_any A4 n c4 l st sk hp rt A n c l st sk hp rt _ R4 R (by omega)).mono ?_
    rintro e w7 ⟨rfl, b⟩
    rw [sm_refl]
    replace R := R.mv b
    replace RB := RB.mv b
    replace R3 := R3.mv b
    replace R4 := R4.mv b
    replace hk := hk.below b hk.lt
    replace h7 := h7.below b h7.lt
    replace hB := hB.trans (b.mono hB.size)
    clear b
    go_wp2_with fail
    refine (decode_cases BA bn bc bl _ RB hbc.1).mono ?_
    rintro e u1 ⟨hpost, b⟩
    replace R := R.mv b
    replace RB := RB.mv b
    replace R3 := R3.mv b
    replace R4 := R4.mv b
    replace hk := hk.below b hk.lt
    replace h7 := h7.below b h7.lt
    replace hB := hB.trans (b.mono hB.size)
    clear b
    rcases hpost with ⟨st2, sk2, hp2, rt2, ps, A5, c5, hv, rfl, R5, hc5⟩ | ⟨e0, A5, c5, he0, _, _, rfl, R5⟩
    rotate_left
    · have de : (e0 != 0) = true := by rw [bne_iff_ne]; exact he0
      have b := Ext.al u1 (.cells #[.slice A5 0 c5, .int .i64 0, .int .i64 0, .int .i64 0, .int .i64 0] 31)
      have h9 := Blk.new u1 31 #[.slice A5 0 c5, .int .i64 0, .int .i64 0, .int .i64 0, .int .i64 0]
      have o_hk_h9 := hk.lt
      have o_h7_h9 := h7.lt
      replace R := R.mv b
      replace RB := RB.mv b
      replace R3 := R3.mv b
      replace R4 := R4.mv b
      replace R5 := R5.mv b
      replace hk := hk.below b hk.lt
      replace h7 := h7.below b h7.lt
      replace hB := hB.trans (b.mono hB.size)
      clear b
      go_wp2_with fail
      generalize u1.alloc (.cells #[.slice A5 0 c5, .int .i64 0, .int .i64 0, .int .i64 0, .int .i64 0] 31) = u2 at *
      generalize u1.heap.size = p9 at *
      refine (alive11_any _).mono ?_
      rintro e u3 ⟨rfl, b⟩
      replace R := R.mv b
      replace RB := RB.mv b
      replace R3 := R3.mv b
      replace R4 := R4.mv b
      replace R5 := R5.mv b
      replace hk := hk.below b hk.lt
      replace h7 := h7.below b h7.lt
      replace h9 := h9.below b h9.lt
      replace hB := hB.trans (b.mono hB.size)
      clear b
      go_wp2_with fail
      go_ret
      exact ⟨rfl, hB⟩
    have hps : ps.length ≤ 9223372036854775807 := by have := (sc_parts hv.1).2.2.2.2.1; omega
    have HE5 := Lib.hid (fun W (h : RdI W W.heap.size A5 ps.length ps) => encode11_any A5 ps.length c5 ps st2 sk2 hp2 rt2 W h hps)
    have HV1 := Lib.hid (show enL st2 sk2 hp2 rt2 ps = bl from by unfold enL; rw [if_pos hv.1, hv.2])
    have HV2 := Lib.hid (sc_ok hv.1)
    rw [HV1.out, HV2.out, HLB.out] at HE5
    clear hv HV1 HV2
    have b := Ext.al u1 (.cells #[.slice A5 ps.length c5, .int .i64 st2, .int .i64 sk2, .int .i64 hp2, .int .i64 rt2] 31)
    have h9 := Blk.new u1 31 #[.slice A5 ps.length c5, .int .i64 st2, .int .i64 sk2, .int .i64 hp2, .int .i64 rt2]
    have o_hk_h9 := hk.lt
    have o_h7_h9 := h7.lt
    replace R := R.mv b
    replace RB := RB.mv b
    replace R3 := R3.mv b
    replace R4 := R4.mv b
    replace R5 := R5.mv b
    replace hk := hk.below b hk.lt
    replace h7 := h7.below b h7.lt
    replace hB := hB.trans (b.mono hB.size)
    clear b
    have z21 : (u1.alloc (.cells #[.slice A5 ps.length c5, .int .i64 st2, .int .i64 sk2, .int .i64 hp2, .int .i64 rt2] 31)).cell? ⟨u1.heap.size, 0, none⟩ = some (.slice A5 ps.length c5) := (h9.cell 0).trans rfl
    have z22 : (u1.alloc (.cells #[.slice A5 ps.length c5, .int .i64 st2, .int .i64 sk2, .int .i64 hp2, .int .i64 rt2] 31)).cell? ⟨u1.heap.size, 1, none⟩ = some (.int .i64 st2) := (h9.cell 1).trans rfl
    have z23 : (u1.alloc (.cells #[.slice A5 ps.length c5, .int .i64 st2, .int .i64 sk2, .int .i64 hp2, .int .i64 rt2] 31)).cell? ⟨u1.heap.size, 2, none⟩ = some (.int .i64 sk2) := (h9.cell 2).trans rfl
    have z24 : (u1.alloc (.cells #[.slice A5 ps.length c5, .int .i64 st2, .int .i64 sk2, .int .i64 hp2, .int .i64 rt2] 31)).cell? ⟨u1.heap.size, 3, none⟩ = some (.int .i64 hp2) := (h9.cell 3).trans rfl
    have z25 : (u1.alloc (.cells #[.slice A5 ps.length c5, .int .i64 st2, .int .i64 sk2, .int .i64 hp2, .int .i64 rt2] 31)).cell? ⟨u1.heap.size, 4, none⟩ = some (.int .i64 rt2) := (h9.cell 4).trans rfl
    go_wp2_with fail
    clear z21 z22 z23 z24 z25
    generalize u1.alloc (.cells #[.slice A5 ps.length c5, .int .i64 st2, .int .i64 sk2, .int .i64 hp2, .int .i64 rt2] 31) = u2 at *
    generalize u1.heap.size = p9 at *
    refine (HE5.out _ R5).mono ?_
    rintro e u3 ⟨A6, c6, rfl, o6, b⟩
    have R6 : Rb u3 A6 bn bl := own_rd o6
    clear o6
    replace R := R.mv b
    replace RB := RB.mv b
    replace R3 := R3.mv b
    replace R4 := R4.mv b
    replace R5 := R5.mv b
    replace hk := hk.below b hk.lt
    replace h7 := h7.below b h7.lt
    replace h9 := h9.below b h9.lt
    replace hB := hB.trans (b.mono hB.size)
    clear b
    have K1 := cvS c6 R6
    have K2 := cvS bc RB
    go_wp2_with fail
    refine (alive11_any _).mono ?_
    rintro e u4 ⟨rfl, b⟩
    replace R := R.mv b
    replace RB := RB.mv b
    replace R3 := R3.mv b
    replace R4 := R4.mv b
    replace R5 := R5.mv b
    replace hk := hk.below b hk.lt
    replace h7 := h7.below b h7.lt
    replace h9 := h9.below b h9.lt
    replace hB := hB.trans (b.mono hB.size)
    clear b
    go_wp2_with fail
    go_ret
    exact ⟨rfl, hB⟩

end Go.Proofs.Ytgobebiagpejkaa
