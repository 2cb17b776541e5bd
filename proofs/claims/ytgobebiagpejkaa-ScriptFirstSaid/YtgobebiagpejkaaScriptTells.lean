/- The walk of ScriptTells. -/
import Derived.Test.YtgobebiagpejkaaScriptChooses
namespace Go.Proofs.Ytgobebiagpejkaa
open Go.RowKit Wire
set_option linter.unusedVariables false

theorem sm_refl (st sk hp rt : Int) (l : List Int) : smB st sk hp rt l st sk hp rt l = true := by simp [smB]

set_option maxRecDepth 100000 in
set_option maxHeartbeats 8000000 in
theorem scriptTells_walk (w : World) (A : Option Addr) (n c : Nat) (l : List Int) (st sk hp rt : Int) (hr : RdI w w.heap.size A n l) (hc : n ≤ c ∧ c ≤ 9223372036854775807) (hst : -9223372036854775808 ≤ st ∧ st ≤ 9223372036854775807) (hsk : -9223372036854775808 ≤ sk ∧ sk ≤ 9223372036854775807) (hhp : -9223372036854775808 ≤ hp ∧ hp ≤ 9223372036854775807) (hrt : -9223372036854775808 ≤ rt ∧ rt ≤ 9223372036854775807) (k : Int) (hkb : -9223372036854775808 ≤ k ∧ k ≤ 9223372036854775807) (pk : Int) (hpk : -9223372036854775808 ≤ pk ∧ pk ≤ 9223372036854775807) (rd : Int) (hrd : -9223372036854775808 ≤ rd ∧ rd ≤ 9223372036854775807) :
    Calls Try.prog 4 #[scr A n c st sk hp rt, .int .i64 k, .int .i64 pk, .int .i64 rd] w fun e w' => e = .returned (.bool true) ∧ Below w.heap.size w w' := by
  have hB : Below w.heap.size w (w.alloc (.cells #[.slice A n c, .int .i64 st, .int .i64 sk, .int .i64 hp, .int .i64 rt] 31)) := Ext.al w _
  have hk := Blk.new w 31 #[.slice A n c, .int .i64 st, .int .i64 sk, .int .i64 hp, .int .i64 rt]
  have R := hr.mv hB
  have HL := Lib.hid hr.lenI
  clear hr
  have hn := hc.2
  have hn' : n ≤ 9223372036854775807 := by omega
  by_cases hg : grB n = true
  · have HG := Lib.hid hg
    clear hg
    go_enter Try.func4, Try.ntmps4
    go_wp2_with fail
    refine (great11_any A n c st sk hp rt _).mono ?_
    rintro e w1 ⟨rfl, b⟩
    rw [HG.out]
    replace hB := hB.trans (b.mono hB.size)
    go_wp2_with fail
    go_ret
    exact ⟨rfl, hB⟩
  have HG := Lib.hid (show grB n = false from by simpa using hg)
  have hn2 : n ≤ 2100 := by
    have h := HG.out
    simp [grB] at h
    omega
  clear hg
  have HCK := Lib.hid (fun W (h : RdI W W.heap.size A n l) => check11_any A n c l st sk hp rt W h hn')
  have HRC := Lib.hid (fun W (h : RdI W W.heap.size A n l) => recheck11_any A n c l st sk hp rt W h hn')
  have HEN := Lib.hid (fun W (h : RdI W W.heap.size A n l) => encode11_any A n c l st sk hp rt W h hn')
  have HRE := Lib.hid (fun W (h : RdI W W.heap.size A n l) => reencode11_any A n c l st sk hp rt W h hn')
  have HCT := Lib.hid (fun W (h : RdI W W.heap.size A n l) => cut_any A n c l st sk hp rt k W h hn' hc.1 hkb)
  have HRT := Lib.hid (fun W (h : RdI W W.heap.size A n l) => recut_any A n c l st sk hp rt k W h hn' hc.1 hkb)
  have HLL := Lib.hid (show ctL st sk hp rt l k = [] ∨ (ctL st sk hp rt l k).length ≤ n from by
    unfold ctL; split
    · right; rw [List.length_take, HL.out]; omega
    · left; rfl)
  have hll : (ctL st sk hp rt l k).length ≤ 2100 := by rcases HLL.out with h | h; rw [h]; simp; omega
  clear HLL
  generalize scE st sk hp rt l = e0 at *
  generalize enL st sk hp rt l = l1 at *
  generalize ctL st sk hp rt l k = l2 at *
  generalize ctE st sk hp rt l k = e2 at *
  generalize ctZ e2 st = z1 at *
  generalize ctZ e2 sk = z2 at *
  generalize ctZ e2 hp = z3 at *
  generalize ctZ e2 rt = z4 at *
  generalize pkN pk rd = m3 at *
  generalize pkE pk rd = e3 at *
  go_enter Try.func4, Try.ntmps4
  go_wp2_with fail
  refine (great11_any A n c st sk hp rt _).mono ?_
  rintro e w2 ⟨rfl, b⟩
  rw [HG.out]
  replace hk := hk.below b hk.lt
  replace R := R.mv b
  replace hB := hB.trans (b.mono hB.size)
  clear b
  have b0 := Ext.al w2 (.cells #[] 3)
  have R0 := R.mv b0
  have hk0 := hk.below b0 hk.lt
  have z1 : w2.cell? ⟨w.heap.size, 0, none⟩ = some (.slice A n c) := (hk.cell 0).trans rfl
  have z2 : w2.cell? ⟨w.heap.size, 1, none⟩ = some (.int .i64 st) := (hk.cell 1).trans rfl
  have z3 : w2.cell? ⟨w.heap.size, 2, none⟩ = some (.int .i64 sk) := (hk.cell 2).trans rfl
  have z4 : w2.cell? ⟨w.heap.size, 3, none⟩ = some (.int .i64 hp) := (hk.cell 3).trans rfl
  have z5 : w2.cell? ⟨w.heap.size, 4, none⟩ = some (.int .i64 rt) := (hk.cell 4).trans rfl
  have y0 : (w2.alloc (.cells #[] 3)).cell? ⟨w.heap.size, 0, none⟩ = some (.slice A n c) := (hk0.cell 0).trans rfl
  go_wp2_with (at_builtin; refine wpList_app rfl (.tmp 24) (.tmp 26) _ (by rfl) slI w2.heap.size _ 0 [] (by rfl) (own_empty_at rfl (Nat.le_refl _) _ _) _ A n c (l.map vI) (by rfl) R0 (vI_one _) (by omega) (by simp) ?_; intro A9 c9 w3 o9 hg9 b9 hc9; have b := Below.trans b0 b9; have R9 := own_reads o9; rw [Nat.zero_add, List.nil_append] at R9; replace R := R.mv b; replace hk := hk.below b hk.lt; replace hB := hB.trans (b.mono hB.size); have q0 : w3.cell? ⟨w.heap.size, 0, none⟩ = some (.slice A n c) := (hk.cell 0).trans rfl; have q1 : w3.cell? ⟨w.heap.size, 1, none⟩ = some (.int .i64 st) := (hk.cell 1).trans rfl; have q2 : w3.cell? ⟨w.heap.size, 2, none⟩ = some (.int .i64 sk) := (hk.cell 2).trans rfl; have q3 : w3.cell? ⟨w.heap.size, 3, none⟩ = some (.int .i64 hp) := (hk.cell 3).trans rfl; have q4 : w3.cell? ⟨w.heap.size, 4, none⟩ = some (.int .i64 rt) := (hk.cell 4).trans rfl)
  clear b o9 hg9 b9 hc9 R0 hk0 b0 q0 q1 q2 q3 q4 y0
  clear z1 z2 z3 z4 z5
  refine (HEN.out _ R).mono ?_
  rintro e w4 ⟨A1, c1, rfl, o1, b⟩
  have R1 := own_rd o1
  clear o1
  replace R := R.mv b
  replace R9 := R9.mv b
  replace hk := hk.below b hk.lt
  replace hB := hB.trans (b.mono hB.size)
  clear b
  replace R1 : Rb w4 A1 l1.length l1 := R1
  have z6 : w4.cell? ⟨w.heap.size, 0, none⟩ = some (.slice A n c) := (hk.cell 0).trans rfl
  have z7 : w4.cell? ⟨w.heap.size, 1, none⟩ = some (.int .i64 st) := (hk.cell 1).trans rfl
  have z8 : w4.cell? ⟨w.heap.size, 2, none⟩ = some (.int .i64 sk) := (hk.cell 2).trans rfl
  have z9 : w4.cell? ⟨w.heap.size, 3, none⟩ = some (.int .i64 hp) := (hk.cell 3).trans rfl
  have z10 : w4.cell? ⟨w.heap.size, 4, none⟩ = some (.int .i64 rt) := (hk.cell 4).trans rfl
  go_wp2_with fail
  clear z6 z7 z8 z9 z10
  refine (HRE.out _ R).mono ?_
  rintro e w5 ⟨A2, c2, rfl, o2, b⟩
  have R2 := own_rd o2
  clear o2
  replace R := R.mv b
  replace R9 := R9.mv b
  replace R1 := R1.mv b
  replace hk := hk.below b hk.lt
  replace hB := hB.trans (b.mono hB.size)
  clear b
  have z11 : w5.cell? ⟨w.heap.size, 0, none⟩ = some (.slice A n c) := (hk.cell 0).trans rfl
  have z12 : w5.cell? ⟨w.heap.size, 1, none⟩ = some (.int .i64 st) := (hk.cell 1).trans rfl
  have z13 : w5.cell? ⟨w.heap.size, 2, none⟩ = some (.int .i64 sk) := (hk.cell 2).trans rfl
  have z14 : w5.cell? ⟨w.heap.size, 3, none⟩ = some (.int .i64 hp) := (hk.cell 3).trans rfl
  have z15 : w5.cell? ⟨w.heap.size, 4, none⟩ = some (.int .i64 rt) := (hk.cell 4).trans rfl
  go_wp2_with fail
  clear z11 z12 z13 z14 z15
  refine (HCT.out _ R).mono ?_
  rintro e w6 ⟨A3, c3, rfl, o3, b⟩
  have R3 := own_reads o3
  clear o3
  replace R := R.mv b
  replace R9 := R9.mv b
  replace R1 := R1.mv b
  replace R2 := R2.mv b
  replace hk := hk.below b hk.lt
  replace hB := hB.trans (b.mono hB.size)
  clear b
  have b := Ext.al w6 (.cells #[.slice A3 l2.length c3, .int .i64 z1, .int .i64 z2, .int .i64 z3, .int .i64 z4] 31)
  have h14 := Blk.new w6 31 #[.slice A3 l2.length c3, .int .i64 z1, .int .i64 z2, .int .i64 z3, .int .i64 z4]
  have o_hk_h14 := hk.lt
  replace R := R.mv b
  replace R9 := R9.mv b
  replace R1 := R1.mv b
  replace R2 := R2.mv b
  replace R3 := R3.mv b
  replace hk := hk.below b hk.lt
  replace hB := hB.trans (b.mono hB.size)
  clear b
  have z16 : (w6.alloc (.cells #[.slice A3 l2.length c3, .int .i64 z1, .int .i64 z2, .int .i64 z3, .int .i64 z4] 31)).cell? ⟨w.heap.size, 0, none⟩ = some (.slice A n c) := (hk.cell 0).trans rfl
  have z17 : (w6.alloc (.cells #[.slice A3 l2.length c3, .int .i64 z1, .int .i64 z2, .int .i64 z3, .int .i64 z4] 31)).cell? ⟨w.heap.size, 1, none⟩ = some (.int .i64 st) := (hk.cell 1).trans rfl
  have z18 : (w6.alloc (.cells #[.slice A3 l2.length c3, .int .i64 z1, .int .i64 z2, .int .i64 z3, .int .i64 z4] 31)).cell? ⟨w.heap.size, 2, none⟩ = some (.int .i64 sk) := (hk.cell 2).trans rfl
  have z19 : (w6.alloc (.cells #[.slice A3 l2.length c3, .int .i64 z1, .int .i64 z2, .int .i64 z3, .int .i64 z4] 31)).cell? ⟨w.heap.size, 3, none⟩ = some (.int .i64 hp) := (hk.cell 3).trans rfl
  have z20 : (w6.alloc (.cells #[.slice A3 l2.length c3, .int .i64 z1, .int .i64 z2, .int .i64 z3, .int .i64 z4] 31)).cell? ⟨w.heap.size, 4, none⟩ = some (.int .i64 rt) := (hk.cell 4).trans rfl
  go_wp2_with fail
  clear z16 z17 z18 z19 z20
  generalize w6.alloc (.cells #[.slice A3 l2.length c3, .int .i64 z1, .int .i64 z2, .int .i64 z3, .int .i64 z4] 31) = w7 at *
  generalize w6.heap.size = p14 at *
  refine (HRT.out _ R).mono ?_
  rintro e w8 ⟨A4, c4, rfl, o4, b⟩
  have R4 := own_reads o4
  clear o4
  replace R := R.mv b
  replace R9 := R9.mv b
  replace R1 := R1.mv b
  replace R2 := R2.mv b
  replace R3 := R3.mv b
  replace hk := hk.below b hk.lt
  replace h14 := h14.below b h14.lt
  replace hB := hB.trans (b.mono hB.size)
  clear b
  have b := Ext.al w8 (.cells #[.slice A4 l2.length c4, .int .i64 z1, .int .i64 z2, .int .i64 z3, .int .i64 z4] 31)
  have h16 := Blk.new w8 31 #[.slice A4 l2.length c4, .int .i64 z1, .int .i64 z2, .int .i64 z3, .int .i64 z4]
  have o_hk_h16 := hk.lt
  have o_h14_h16 := h14.lt
  replace R := R.mv b
  replace R9 := R9.mv b
  replace R1 := R1.mv b
  replace R2 := R2.mv b
  replace R3 := R3.mv b
  replace R4 := R4.mv b
  replace hk := hk.below b hk.lt
  replace h14 := h14.below b h14.lt
  replace hB := hB.trans (b.mono hB.size)
  clear b
  go_wp2_with fail
  generalize w8.alloc (.cells #[.slice A4 l2.length c4, .int .i64 z1, .int .i64 z2, .int .i64 z3, .int .i64 z4] 31) = w9 at *
  generalize w8.heap.size = p16 at *
  refine (pick_any pk rd _).mono ?_
  rintro e wq ⟨rfl, rfl⟩
  go_wp2_with fail
  refine (repick_any pk rd _).mono ?_
  rintro e wq ⟨rfl, rfl⟩
  go_wp2_with fail
  refine ext_start (by kernel_rfl) (by repeat (first | exact calm_body | apply calm_then | apply calm_block)) (fun hQ => ?_)
  have b := (Ext.refl w9).draw
  replace R := R.mv b
  replace R9 := R9.mv b
  replace R1 := R1.mv b
  replace R2 := R2.mv b
  replace R3 := R3.mv b
  replace R4 := R4.mv b
  replace hk := hk.below b hk.lt
  replace h14 := h14.below b h14.lt
  replace h16 := h16.below b h16.lt
  replace hB := hB.trans (b.mono hB.size)
  clear b
  generalize w9.drew = x1 at *
  have X21 : ∀ W, Ext x1 W → W.cell? ⟨w.heap.size, 0, none⟩ = some (.slice A n c) := fun W h => ((hk.below h hk.lt).cell 0).trans rfl
  have X22 : ∀ W, Ext x1 W → W.cell? ⟨w.heap.size, 1, none⟩ = some (.int .i64 st) := fun W h => ((hk.below h hk.lt).cell 1).trans rfl
  have X23 : ∀ W, Ext x1 W → W.cell? ⟨w.heap.size, 2, none⟩ = some (.int .i64 sk) := fun W h => ((hk.below h hk.lt).cell 2).trans rfl
  have X24 : ∀ W, Ext x1 W → W.cell? ⟨w.heap.size, 3, none⟩ = some (.int .i64 hp) := fun W h => ((hk.below h hk.lt).cell 3).trans rfl
  have X25 : ∀ W, Ext x1 W → W.cell? ⟨w.heap.size, 4, none⟩ = some (.int .i64 rt) := fun W h => ((hk.below h hk.lt).cell 4).trans rfl
  have X26 : ∀ W, Ext x1 W → W.cell? ⟨p14, 0, none⟩ = some (.slice A3 l2.length c3) := fun W h => ((h14.below h h14.lt).cell 0).trans rfl
  have X27 : ∀ W, Ext x1 W → W.cell? ⟨p14, 1, none⟩ = some (.int .i64 z1) := fun W h => ((h14.below h h14.lt).cell 1).trans rfl
  have X28 : ∀ W, Ext x1 W → W.cell? ⟨p14, 2, none⟩ = some (.int .i64 z2) := fun W h => ((h14.below h h14.lt).cell 2).trans rfl
  have X29 : ∀ W, Ext x1 W → W.cell? ⟨p14, 3, none⟩ = some (.int .i64 z3) := fun W h => ((h14.below h h14.lt).cell 3).trans rfl
  have X30 : ∀ W, Ext x1 W → W.cell? ⟨p14, 4, none⟩ = some (.int .i64 z4) := fun W h => ((h14.below h h14.lt).cell 4).trans rfl
  have X31 : ∀ W, Ext x1 W → W.cell? ⟨p16, 0, none⟩ = some (.slice A4 l2.length c4) := fun W h => ((h16.below h h16.lt).cell 0).trans rfl
  have X32 : ∀ W, Ext x1 W → W.cell? ⟨p16, 1, none⟩ = some (.int .i64 z1) := fun W h => ((h16.below h h16.lt).cell 1).trans rfl
  have X33 : ∀ W, Ext x1 W → W.cell? ⟨p16, 2, none⟩ = some (.int .i64 z2) := fun W h => ((h16.below h h16.lt).cell 2).trans rfl
  have X34 : ∀ W, Ext x1 W → W.cell? ⟨p16, 3, none⟩ = some (.int .i64 z3) := fun W h => ((h16.below h h16.lt).cell 3).trans rfl
  have X35 : ∀ W, Ext x1 W → W.cell? ⟨p16, 4, none⟩ = some (.int .i64 z4) := fun W h => ((h16.below h h16.lt).cell 4).trans rfl
  have X36 : ∀ W, Ext x1 W → CvS (A1) (l1.length) (c1) (l1) W := fun W h => cvS (c1) (Reads.below R1 h)
  have X37 : ∀ W, Ext x1 W → CvS (A2) (l1.length) (c2) (l1) W := fun W h => cvS (c2) (Reads.below R2 h)
  refine ext_take (i := 0) (oi := ?oia0) (v := ?va0) ?hia0 (by kernel_rfl) (by kernel_rfl) (by kernel_rfl) hQ ?hwa0 ?hya0 ?resta0
  case hia0 => simp only [List.getElem?_toArray, List.getElem?_cons_zero]; rfl
  case hwa0 => rfl
  case hya0 => intro W hW; go_simp; with_reducible rfl
  simp only [Act.put, List.setIfInBounds_toArray, List.set_cons_zero, List.set_cons_succ]
  refine ext_take (i := 2) (oi := ?oia2) (v := ?va2) ?hia2 (by kernel_rfl) (by kernel_rfl) (by kernel_rfl) hQ ?hwa2 ?hya2 ?resta2
  case hia2 => simp only [List.getElem?_toArray, List.getElem?_cons_zero, List.getElem?_cons_succ]; rfl
  case hwa2 => rfl
  case hya2 => intro W hW; go_simp; with_reducible rfl
  simp only [Act.put, List.setIfInBounds_toArray, List.set_cons_zero, List.set_cons_succ]
  refine ext_step (i := 1) (oi := ?oia1) (by kernel_rfl) ?hia1 ?hwa1 (fun K hK => ?_)
  case hia1 => simp only [List.getElem?_toArray, List.getElem?_cons_zero, List.getElem?_cons_succ]; rfl
  case hwa1 => rfl
  go_simp
  refine (HCK.out _ R).mono ?_; rintro e x2 ⟨rfl, b⟩; replace R := R.mv b; replace R9 := R9.mv b; replace R1 := R1.mv b; replace R2 := R2.mv b; replace R3 := R3.mv b; replace R4 := R4.mv b; replace hk := hk.below b hk.lt; replace h14 := h14.below b h14.lt; replace h16 := h16.below b h16.lt; replace hB := hB.trans (b.mono hB.size); have X38 : ∀ W, Ext x2 W → W.cell? ⟨w.heap.size, 0, none⟩ = some (.slice A n c) := fun W h => ((hk.below h hk.lt).cell 0).trans rfl; have X39 : ∀ W, Ext x2 W → W.cell? ⟨w.heap.size, 1, none⟩ = some (.int .i64 st) := fun W h => ((hk.below h hk.lt).cell 1).trans rfl; have X40 : ∀ W, Ext x2 W → W.cell? ⟨w.heap.size, 2, none⟩ = some (.int .i64 sk) := fun W h => ((hk.below h hk.lt).cell 2).trans rfl; have X41 : ∀ W, Ext x2 W → W.cell? ⟨w.heap.size, 3, none⟩ = some (.int .i64 hp) := fun W h => ((hk.below h hk.lt).cell 3).trans rfl; have X42 : ∀ W, Ext x2 W → W.cell? ⟨w.heap.size, 4, none⟩ = some (.int .i64 rt) := fun W h => ((hk.below h hk.lt).cell 4).trans rfl; have X43 : ∀ W, Ext x2 W → W.cell? ⟨p14, 0, none⟩ = some (.slice A3 l2.length c3) := fun W h => ((h14.below h h14.lt).cell 0).trans rfl; have X44 : ∀ W, Ext x2 W → W.cell? ⟨p14, 1, none⟩ = some (.int .i64 z1) := fun W h => ((h14.below h h14.lt).cell 1).trans rfl; have X45 : ∀ W, Ext x2 W → W.cell? ⟨p14, 2, none⟩ = some (.int .i64 z2) := fun W h => ((h14.below h h14.lt).cell 2).trans rfl; have X46 : ∀ W, Ext x2 W → W.cell? ⟨p14, 3, none⟩ = some (.int .i64 z3) := fun W h => ((h14.below h h14.lt).cell 3).trans rfl; have X47 : ∀ W, Ext x2 W → W.cell? ⟨p14, 4, none⟩ = some (.int .i64 z4) := fun W h => ((h14.below h h14.lt).cell 4).trans rfl; have X48 : ∀ W, Ext x2 W → W.cell? ⟨p16, 0, none⟩ = some (.slice A4 l2.length c4) := fun W h => ((h16.below h h16.lt).cell 0).trans rfl; have X49 : ∀ W, Ext x2 W → W.cell? ⟨p16, 1, none⟩ = some (.int .i64 z1) := fun W h => ((h16.below h h16.lt).cell 1).trans rfl; have X50 : ∀ W, Ext x2 W → W.cell? ⟨p16, 2, none⟩ = some (.int .i64 z2) := fun W h => ((h16.below h h16.lt).cell 2).trans rfl; have X51 : ∀ W, Ext x2 W → W.cell? ⟨p16, 3, none⟩ = some (.int .i64 z3) := fun W h => ((h16.below h h16.lt).cell 3).trans rfl; have X52 : ∀ W, Ext x2 W → W.cell? ⟨p16, 4, none⟩ = some (.int .i64 z4) := fun W h => ((h16.below h h16.lt).cell 4).trans rfl; have X53 : ∀ W, Ext x2 W → CvS (A1) (l1.length) (c1) (l1) W := fun W h => cvS (c1) (Reads.below R1 h); have X54 : ∀ W, Ext x2 W → CvS (A2) (l1.length) (c2) (l1) W := fun W h => cvS (c2) (Reads.below R2 h); refine hK _ _ b ?_
  try simp only [Act.put, List.setIfInBounds_toArray, List.set_cons_zero, List.set_cons_succ]
  refine ext_step (i := 3) (oi := ?oia3) (by kernel_rfl) ?hia3 ?hwa3 (fun K hK => ?_)
  case hia3 => simp only [List.getElem?_toArray, List.getElem?_cons_zero, List.getElem?_cons_succ]; rfl
  case hwa3 => rfl
  go_simp
  refine (HRC.out _ R).mono ?_; rintro e x3 ⟨rfl, b⟩; replace R := R.mv b; replace R9 := R9.mv b; replace R1 := R1.mv b; replace R2 := R2.mv b; replace R3 := R3.mv b; replace R4 := R4.mv b; replace hk := hk.below b hk.lt; replace h14 := h14.below b h14.lt; replace h16 := h16.below b h16.lt; replace hB := hB.trans (b.mono hB.size); have X55 : ∀ W, Ext x3 W → W.cell? ⟨w.heap.size, 0, none⟩ = some (.slice A n c) := fun W h => ((hk.below h hk.lt).cell 0).trans rfl; have X56 : ∀ W, Ext x3 W → W.cell? ⟨w.heap.size, 1, none⟩ = some (.int .i64 st) := fun W h => ((hk.below h hk.lt).cell 1).trans rfl; have X57 : ∀ W, Ext x3 W → W.cell? ⟨w.heap.size, 2, none⟩ = some (.int .i64 sk) := fun W h => ((hk.below h hk.lt).cell 2).trans rfl; have X58 : ∀ W, Ext x3 W → W.cell? ⟨w.heap.size, 3, none⟩ = some (.int .i64 hp) := fun W h => ((hk.below h hk.lt).cell 3).trans rfl; have X59 : ∀ W, Ext x3 W → W.cell? ⟨w.heap.size, 4, none⟩ = some (.int .i64 rt) := fun W h => ((hk.below h hk.lt).cell 4).trans rfl; have X60 : ∀ W, Ext x3 W → W.cell? ⟨p14, 0, none⟩ = some (.slice A3 l2.length c3) := fun W h => ((h14.below h h14.lt).cell 0).trans rfl; have X61 : ∀ W, Ext x3 W → W.cell? ⟨p14, 1, none⟩ = some (.int .i64 z1) := fun W h => ((h14.below h h14.lt).cell 1).trans rfl; have X62 : ∀ W, Ext x3 W → W.cell? ⟨p14, 2, none⟩ = some (.int .i64 z2) := fun W h => ((h14.below h h14.lt).cell 2).trans rfl; have X63 : ∀ W, Ext x3 W → W.cell? ⟨p14, 3, none⟩ = some (.int .i64 z3) := fun W h => ((h14.below h h14.lt).cell 3).trans rfl; have X64 : ∀ W, Ext x3 W → W.cell? ⟨p14, 4, none⟩ = some (.int .i64 z4) := fun W h => ((h14.below h h14.lt).cell 4).trans rfl; have X65 : ∀ W, Ext x3 W → W.cell? ⟨p16, 0, none⟩ = some (.slice A4 l2.length c4) := fun W h => ((h16.below h h16.lt).cell 0).trans rfl; have X66 : ∀ W, Ext x3 W → W.cell? ⟨p16, 1, none⟩ = some (.int .i64 z1) := fun W h => ((h16.below h h16.lt).cell 1).trans rfl; have X67 : ∀ W, Ext x3 W → W.cell? ⟨p16, 2, none⟩ = some (.int .i64 z2) := fun W h => ((h16.below h h16.lt).cell 2).trans rfl; have X68 : ∀ W, Ext x3 W → W.cell? ⟨p16, 3, none⟩ = some (.int .i64 z3) := fun W h => ((h16.below h h16.lt).cell 3).trans rfl; have X69 : ∀ W, Ext x3 W → W.cell? ⟨p16, 4, none⟩ = some (.int .i64 z4) := fun W h => ((h16.below h h16.lt).cell 4).trans rfl; have X70 : ∀ W, Ext x3 W → CvS (A1) (l1.length) (c1) (l1) W := fun W h => cvS (c1) (Reads.below R1 h); have X71 : ∀ W, Ext x3 W → CvS (A2) (l1.length) (c2) (l1) W := fun W h => cvS (c2) (Reads.below R2 h); refine hK _ _ b ?_
  try simp only [Act.put, List.setIfInBounds_toArray, List.set_cons_zero, List.set_cons_succ]
  refine ext_take (i := 4) (oi := ?oia4) (v := ?va4) ?hia4 (by kernel_rfl) (by kernel_rfl) (by kernel_rfl) hQ ?hwa4 ?hya4 ?resta4
  case hia4 => simp only [List.getElem?_toArray, List.getElem?_cons_zero, List.getElem?_cons_succ]; rfl
  case hwa4 => rfl
  case hya4 => intro W hW; go_simp; with_reducible rfl
  simp only [Act.put, List.setIfInBounds_toArray, List.set_cons_zero, List.set_cons_succ]
  refine ext_take (i := 5) (oi := ?oia5) (v := ?va5) ?hia5 (by kernel_rfl) (by kernel_rfl) (by kernel_rfl) hQ ?hwa5 ?hya5 ?resta5
  case hia5 => simp only [List.getElem?_toArray, List.getElem?_cons_zero, List.getElem?_cons_succ]; rfl
  case hwa5 => rfl
  case hya5 => intro W hW; go_simp; with_reducible rfl
  simp only [Act.put, List.setIfInBounds_toArray, List.set_cons_zero, List.set_cons_succ]
  refine ext_take (i := 6) (oi := ?oia6) (v := ?va6) ?hia6 (by kernel_rfl) (by kernel_rfl) (by kernel_rfl) hQ ?hwa6 ?hya6 ?resta6
  case hia6 => simp only [List.getElem?_toArray, List.getElem?_cons_zero, List.getElem?_cons_succ]; rfl
  case hwa6 => rfl
  case hya6 => intro W hW; go_simp; with_reducible rfl
  simp only [Act.put, List.setIfInBounds_toArray, List.set_cons_zero, List.set_cons_succ]
  refine ext_take (i := 7) (oi := ?oia7) (v := ?va7) ?hia7 (by kernel_rfl) (by kernel_rfl) (by kernel_rfl) hQ ?hwa7 ?hya7 ?resta7
  case hia7 => simp only [List.getElem?_toArray, List.getElem?_cons_zero, List.getElem?_cons_succ]; rfl
  case hwa7 => rfl
  case hya7 => intro W hW; go_simp; with_reducible rfl
  simp only [Act.put, List.setIfInBounds_toArray, List.set_cons_zero, List.set_cons_succ]
  refine ext_take (i := 8) (oi := ?oia8) (v := ?va8) ?hia8 (by kernel_rfl) (by kernel_rfl) (by kernel_rfl) hQ ?hwa8 ?hya8 ?resta8
  case hia8 => simp only [List.getElem?_toArray, List.getElem?_cons_zero, List.getElem?_cons_succ]; rfl
  case hwa8 => rfl
  case hya8 => intro W hW; go_simp; with_reducible rfl
  simp only [Act.put, List.setIfInBounds_toArray, List.set_cons_zero, List.set_cons_succ]
  refine ext_take (i := 9) (oi := ?oia9) (v := ?va9) ?hia9 (by kernel_rfl) (by kernel_rfl) (by kernel_rfl) hQ ?hwa9 ?hya9 ?resta9
  case hia9 => simp only [List.getElem?_toArray, List.getElem?_cons_zero, List.getElem?_cons_succ]; rfl
  case hwa9 => rfl
  case hya9 => intro W hW; go_simp; with_reducible rfl
  simp only [Act.put, List.setIfInBounds_toArray, List.set_cons_zero, List.set_cons_succ]
  refine ext_take (i := 10) (oi := ?oia10) (v := ?va10) ?hia10 (by kernel_rfl) (by kernel_rfl) (by kernel_rfl) hQ ?hwa10 ?hya10 ?resta10
  case hia10 => simp only [List.getElem?_toArray, List.getElem?_cons_zero, List.getElem?_cons_succ]; rfl
  case hwa10 => rfl
  case hya10 => intro W hW; go_simp; with_reducible rfl
  simp only [Act.put, List.setIfInBounds_toArray, List.set_cons_zero, List.set_cons_succ]
  refine ext_take (i := 11) (oi := ?oia11) (v := ?va11) ?hia11 (by kernel_rfl) (by kernel_rfl) (by kernel_rfl) hQ ?hwa11 ?hya11 ?resta11
  case hia11 => simp only [List.getElem?_toArray, List.getElem?_cons_zero, List.getElem?_cons_succ]; rfl
  case hwa11 => rfl
  case hya11 => intro W hW; go_simp; with_reducible rfl
  simp only [Act.put, List.setIfInBounds_toArray, List.set_cons_zero, List.set_cons_succ]
  refine ext_take (i := 12) (oi := ?oia12) (v := ?va12) ?hia12 (by kernel_rfl) (by kernel_rfl) (by kernel_rfl) hQ ?hwa12 ?hya12 ?resta12
  case hia12 => simp only [List.getElem?_toArray, List.getElem?_cons_zero, List.getElem?_cons_succ]; rfl
  case hwa12 => rfl
  case hya12 => intro W hW; go_simp; with_reducible rfl
  simp only [Act.put, List.setIfInBounds_toArray, List.set_cons_zero, List.set_cons_succ]
  refine ext_take (i := 13) (oi := ?oia13) (v := ?va13) ?hia13 (by kernel_rfl) (by kernel_rfl) (by kernel_rfl) hQ ?hwa13 ?hya13 ?resta13
  case hia13 => simp only [List.getElem?_toArray, List.getElem?_cons_zero, List.getElem?_cons_succ]; rfl
  case hwa13 => rfl
  case hya13 => intro W hW; go_simp; with_reducible rfl
  simp only [Act.put, List.setIfInBounds_toArray, List.set_cons_zero, List.set_cons_succ]
  refine ext_take (i := 14) (oi := ?oia14) (v := ?va14) ?hia14 (by kernel_rfl) (by kernel_rfl) (by kernel_rfl) hQ ?hwa14 ?hya14 ?resta14
  case hia14 => simp only [List.getElem?_toArray, List.getElem?_cons_zero, List.getElem?_cons_succ]; rfl
  case hwa14 => rfl
  case hya14 => intro W hW; go_simp; with_reducible rfl
  simp only [Act.put, List.setIfInBounds_toArray, List.set_cons_zero, List.set_cons_succ]
  refine ext_take (i := 15) (oi := ?oia15) (v := ?va15) ?hia15 (by kernel_rfl) (by kernel_rfl) (by kernel_rfl) hQ ?hwa15 ?hya15 ?resta15
  case hia15 => simp only [List.getElem?_toArray, List.getElem?_cons_zero, List.getElem?_cons_succ]; rfl
  case hwa15 => rfl
  case hya15 => intro W hW; go_simp; with_reducible rfl
  simp only [Act.put, List.setIfInBounds_toArray, List.set_cons_zero, List.set_cons_succ]
  refine ext_take (i := 16) (oi := ?oia16) (v := ?va16) ?hia16 (by kernel_rfl) (by kernel_rfl) (by kernel_rfl) hQ ?hwa16 ?hya16 ?resta16
  case hia16 => simp only [List.getElem?_toArray, List.getElem?_cons_zero, List.getElem?_cons_succ]; rfl
  case hwa16 => rfl
  case hya16 => intro W hW; go_simp; with_reducible rfl
  simp only [Act.put, List.setIfInBounds_toArray, List.set_cons_zero, List.set_cons_succ]
  refine ext_take (i := 17) (oi := ?oia17) (v := ?va17) ?hia17 (by kernel_rfl) (by kernel_rfl) (by kernel_rfl) hQ ?hwa17 ?hya17 ?resta17
  case hia17 => simp only [List.getElem?_toArray, List.getElem?_cons_zero, List.getElem?_cons_succ]; rfl
  case hwa17 => rfl
  case hya17 => intro W hW; go_simp; with_reducible rfl
  simp only [Act.put, List.setIfInBounds_toArray, List.set_cons_zero, List.set_cons_succ]
  refine ext_take (i := 18) (oi := ?oia18) (v := ?va18) ?hia18 (by kernel_rfl) (by kernel_rfl) (by kernel_rfl) hQ ?hwa18 ?hya18 ?resta18
  case hia18 => simp only [List.getElem?_toArray, List.getElem?_cons_zero, List.getElem?_cons_succ]; rfl
  case hwa18 => rfl
  case hya18 => intro W hW; go_simp; with_reducible rfl
  simp only [Act.put, List.setIfInBounds_toArray, List.set_cons_zero, List.set_cons_succ]
  refine ext_take (i := 19) (oi := ?oia19) (v := ?va19) ?hia19 (by kernel_rfl) (by kernel_rfl) (by kernel_rfl) hQ ?hwa19 ?hya19 ?resta19
  case hia19 => simp only [List.getElem?_toArray, List.getElem?_cons_zero, List.getElem?_cons_succ]; rfl
  case hwa19 => rfl
  case hya19 => intro W hW; go_simp; with_reducible rfl
  simp only [Act.put, List.setIfInBounds_toArray, List.set_cons_zero, List.set_cons_succ]
  refine ext_step (i := 20) (oi := ?oia20) (by kernel_rfl) ?hia20 ?hwa20 (fun K hK => ?_)
  case hia20 => simp only [List.getElem?_toArray, List.getElem?_cons_zero, List.getElem?_cons_succ]; rfl
  case hwa20 => rfl
  go_simp
  refine (same11_any A3 l2.length c3 l2 z1 z2 z3 z4 A4 l2.length c4 l2 z1 z2 z3 z4 _ R3 R4 (by omega)).mono ?_; rintro e x4 ⟨rfl, b⟩; rw [sm_refl]; replace R := R.mv b; replace R9 := R9.mv b; replace R1 := R1.mv b; replace R2 := R2.mv b; replace R3 := R3.mv b; replace R4 := R4.mv b; replace hk := hk.below b hk.lt; replace h14 := h14.below b h14.lt; replace h16 := h16.below b h16.lt; replace hB := hB.trans (b.mono hB.size); have X72 : ∀ W, Ext x4 W → W.cell? ⟨w.heap.size, 0, none⟩ = some (.slice A n c) := fun W h => ((hk.below h hk.lt).cell 0).trans rfl; have X73 : ∀ W, Ext x4 W → W.cell? ⟨w.heap.size, 1, none⟩ = some (.int .i64 st) := fun W h => ((hk.below h hk.lt).cell 1).trans rfl; have X74 : ∀ W, Ext x4 W → W.cell? ⟨w.heap.size, 2, none⟩ = some (.int .i64 sk) := fun W h => ((hk.below h hk.lt).cell 2).trans rfl; have X75 : ∀ W, Ext x4 W → W.cell? ⟨w.heap.size, 3, none⟩ = some (.int .i64 hp) := fun W h => ((hk.below h hk.lt).cell 3).trans rfl; have X76 : ∀ W, Ext x4 W → W.cell? ⟨w.heap.size, 4, none⟩ = some (.int .i64 rt) := fun W h => ((hk.below h hk.lt).cell 4).trans rfl; have X77 : ∀ W, Ext x4 W → W.cell? ⟨p14, 0, none⟩ = some (.slice A3 l2.length c3) := fun W h => ((h14.below h h14.lt).cell 0).trans rfl; have X78 : ∀ W, Ext x4 W → W.cell? ⟨p14, 1, none⟩ = some (.int .i64 z1) := fun W h => ((h14.below h h14.lt).cell 1).trans rfl; have X79 : ∀ W, Ext x4 W → W.cell? ⟨p14, 2, none⟩ = some (.int .i64 z2) := fun W h => ((h14.below h h14.lt).cell 2).trans rfl; have X80 : ∀ W, Ext x4 W → W.cell? ⟨p14, 3, none⟩ = some (.int .i64 z3) := fun W h => ((h14.below h h14.lt).cell 3).trans rfl; have X81 : ∀ W, Ext x4 W → W.cell? ⟨p14, 4, none⟩ = some (.int .i64 z4) := fun W h => ((h14.below h h14.lt).cell 4).trans rfl; have X82 : ∀ W, Ext x4 W → W.cell? ⟨p16, 0, none⟩ = some (.slice A4 l2.length c4) := fun W h => ((h16.below h h16.lt).cell 0).trans rfl; have X83 : ∀ W, Ext x4 W → W.cell? ⟨p16, 1, none⟩ = some (.int .i64 z1) := fun W h => ((h16.below h h16.lt).cell 1).trans rfl; have X84 : ∀ W, Ext x4 W → W.cell? ⟨p16, 2, none⟩ = some (.int .i64 z2) := fun W h => ((h16.below h h16.lt).cell 2).trans rfl; have X85 : ∀ W, Ext x4 W → W.cell? ⟨p16, 3, none⟩ = some (.int .i64 z3) := fun W h => ((h16.below h h16.lt).cell 3).trans rfl; have X86 : ∀ W, Ext x4 W → W.cell? ⟨p16, 4, none⟩ = some (.int .i64 z4) := fun W h => ((h16.below h h16.lt).cell 4).trans rfl; have X87 : ∀ W, Ext x4 W → CvS (A1) (l1.length) (c1) (l1) W := fun W h => cvS (c1) (Reads.below R1 h); have X88 : ∀ W, Ext x4 W → CvS (A2) (l1.length) (c2) (l1) W := fun W h => cvS (c2) (Reads.below R2 h); refine hK _ _ b ?_
  try simp only [Act.put, List.setIfInBounds_toArray, List.set_cons_zero, List.set_cons_succ]
  refine ext_take (i := 21) (oi := ?oia21) (v := ?va21) ?hia21 (by kernel_rfl) (by kernel_rfl) (by kernel_rfl) hQ ?hwa21 ?hya21 ?resta21
  case hia21 => simp only [List.getElem?_toArray, List.getElem?_cons_zero, List.getElem?_cons_succ]; rfl
  case hwa21 => rfl
  case hya21 => intro W hW; go_simp; with_reducible rfl
  simp only [Act.put, List.setIfInBounds_toArray, List.set_cons_zero, List.set_cons_succ]
  refine ext_take (i := 22) (oi := ?oia22) (v := ?va22) ?hia22 (by kernel_rfl) (by kernel_rfl) (by kernel_rfl) hQ ?hwa22 ?hya22 ?resta22
  case hia22 => simp only [List.getElem?_toArray, List.getElem?_cons_zero, List.getElem?_cons_succ]; rfl
  case hwa22 => rfl
  case hya22 => intro W hW; go_simp; with_reducible rfl
  simp only [Act.put, List.setIfInBounds_toArray, List.set_cons_zero, List.set_cons_succ]
  refine ext_take (i := 23) (oi := ?oia23) (v := ?va23) ?hia23 (by kernel_rfl) (by kernel_rfl) (by kernel_rfl) hQ ?hwa23 ?hya23 ?resta23
  case hia23 => simp only [List.getElem?_toArray, List.getElem?_cons_zero, List.getElem?_cons_succ]; rfl
  case hwa23 => rfl
  case hya23 => intro W hW; go_simp; with_reducible rfl
  simp only [Act.put, List.setIfInBounds_toArray, List.set_cons_zero, List.set_cons_succ]
  refine ext_take (i := 24) (oi := ?oia24) (v := ?va24) ?hia24 (by kernel_rfl) (by kernel_rfl) (by kernel_rfl) hQ ?hwa24 ?hya24 ?resta24
  case hia24 => simp only [List.getElem?_toArray, List.getElem?_cons_zero, List.getElem?_cons_succ]; rfl
  case hwa24 => rfl
  case hya24 => intro W hW; go_simp; with_reducible rfl
  simp only [Act.put, List.setIfInBounds_toArray, List.set_cons_zero, List.set_cons_succ]
  refine ext_take (i := 25) (oi := ?oia25) (v := ?va25) ?hia25 (by kernel_rfl) (by kernel_rfl) (by kernel_rfl) hQ ?hwa25 ?hya25 ?resta25
  case hia25 => simp only [List.getElem?_toArray, List.getElem?_cons_zero, List.getElem?_cons_succ]; rfl
  case hwa25 => rfl
  case hya25 => intro W hW; go_simp; with_reducible rfl
  simp only [Act.put, List.setIfInBounds_toArray, List.set_cons_zero, List.set_cons_succ]
  refine ext_take (i := 26) (oi := ?oia26) (v := ?va26) ?hia26 (by kernel_rfl) (by kernel_rfl) (by kernel_rfl) hQ ?hwa26 ?hya26 ?resta26
  case hia26 => simp only [List.getElem?_toArray, List.getElem?_cons_zero, List.getElem?_cons_succ]; rfl
  case hwa26 => rfl
  case hya26 => intro W hW; go_simp; with_reducible rfl
  simp only [Act.put, List.setIfInBounds_toArray, List.set_cons_zero, List.set_cons_succ]
  refine ext_take (i := 27) (oi := ?oia27) (v := ?va27) ?hia27 (by kernel_rfl) (by kernel_rfl) (by kernel_rfl) hQ ?hwa27 ?hya27 ?resta27
  case hia27 => simp only [List.getElem?_toArray, List.getElem?_cons_zero, List.getElem?_cons_succ]; rfl
  case hwa27 => rfl
  case hya27 => intro W hW; go_simp; with_reducible rfl
  simp only [Act.put, List.setIfInBounds_toArray, List.set_cons_zero, List.set_cons_succ]
  refine ext_take (i := 28) (oi := ?oia28) (v := ?va28) ?hia28 (by kernel_rfl) (by kernel_rfl) (by kernel_rfl) hQ ?hwa28 ?hya28 ?resta28
  case hia28 => simp only [List.getElem?_toArray, List.getElem?_cons_zero, List.getElem?_cons_succ]; rfl
  case hwa28 => rfl
  case hya28 => intro W hW; go_simp; with_reducible rfl
  simp only [Act.put, List.setIfInBounds_toArray, List.set_cons_zero, List.set_cons_succ]
  refine ext_take (i := 29) (oi := ?oia29) (v := ?va29) ?hia29 (by kernel_rfl) (by kernel_rfl) (by kernel_rfl) hQ ?hwa29 ?hya29 ?resta29
  case hia29 => simp only [List.getElem?_toArray, List.getElem?_cons_zero, List.getElem?_cons_succ]; rfl
  case hwa29 => rfl
  case hya29 => intro W hW; go_simp; with_reducible rfl
  simp only [Act.put, List.setIfInBounds_toArray, List.set_cons_zero, List.set_cons_succ]
  refine ext_take (i := 30) (oi := ?oia30) (v := ?va30) ?hia30 (by kernel_rfl) (by kernel_rfl) (by kernel_rfl) hQ ?hwa30 ?hya30 ?resta30
  case hia30 => simp only [List.getElem?_toArray, List.getElem?_cons_zero, List.getElem?_cons_succ]; rfl
  case hwa30 => rfl
  case hya30 => intro W hW; go_simp; with_reducible rfl
  simp only [Act.put, List.setIfInBounds_toArray, List.set_cons_zero, List.set_cons_succ]
  refine ext_take (i := 31) (oi := ?oia31) (v := ?va31) ?hia31 (by kernel_rfl) (by kernel_rfl) (by kernel_rfl) hQ ?hwa31 ?hya31 ?resta31
  case hia31 => simp only [List.getElem?_toArray, List.getElem?_cons_zero, List.getElem?_cons_succ]; rfl
  case hwa31 => rfl
  case hya31 => intro W hW; go_simp; with_reducible rfl
  simp only [Act.put, List.setIfInBounds_toArray, List.set_cons_zero, List.set_cons_succ]
  refine ext_take (i := 32) (oi := ?oia32) (v := ?va32) ?hia32 (by kernel_rfl) (by kernel_rfl) (by kernel_rfl) hQ ?hwa32 ?hya32 ?resta32
  case hia32 => simp only [List.getElem?_toArray, List.getElem?_cons_zero, List.getElem?_cons_succ]; rfl
  case hwa32 => rfl
  case hya32 => intro W hW; go_simp; with_reducible rfl
  simp only [Act.put, List.setIfInBounds_toArray, List.set_cons_zero, List.set_cons_succ]
  refine ext_take (i := 33) (oi := ?oia33) (v := ?va33) ?hia33 (by kernel_rfl) (by kernel_rfl) (by kernel_rfl) hQ ?hwa33 ?hya33 ?resta33
  case hia33 => simp only [List.getElem?_toArray, List.getElem?_cons_zero, List.getElem?_cons_succ]; rfl
  case hwa33 => rfl
  case hya33 => intro W hW; go_simp; with_reducible rfl
  simp only [Act.put, List.setIfInBounds_toArray, List.set_cons_zero, List.set_cons_succ]
  refine ext_take (i := 34) (oi := ?oia34) (v := ?va34) ?hia34 (by kernel_rfl) (by kernel_rfl) (by kernel_rfl) hQ ?hwa34 ?hya34 ?resta34
  case hia34 => simp only [List.getElem?_toArray, List.getElem?_cons_zero, List.getElem?_cons_succ]; rfl
  case hwa34 => rfl
  case hya34 => intro W hW; go_simp; with_reducible rfl
  simp only [Act.put, List.setIfInBounds_toArray, List.set_cons_zero, List.set_cons_succ]
  refine ext_take (i := 35) (oi := ?oia35) (v := ?va35) ?hia35 (by kernel_rfl) (by kernel_rfl) (by kernel_rfl) hQ ?hwa35 ?hya35 ?resta35
  case hia35 => simp only [List.getElem?_toArray, List.getElem?_cons_zero, List.getElem?_cons_succ]; rfl
  case hwa35 => rfl
  case hya35 => intro W hW; go_simp; with_reducible rfl
  simp only [Act.put, List.setIfInBounds_toArray, List.set_cons_zero, List.set_cons_succ]
  refine ext_take (i := 36) (oi := ?oia36) (v := ?va36) ?hia36 (by kernel_rfl) (by kernel_rfl) (by kernel_rfl) hQ ?hwa36 ?hya36 ?resta36
  case hia36 => simp only [List.getElem?_toArray, List.getElem?_cons_zero, List.getElem?_cons_succ]; rfl
  case hwa36 => rfl
  case hya36 => intro W hW; go_simp; with_reducible rfl
  simp only [Act.put, List.setIfInBounds_toArray, List.set_cons_zero, List.set_cons_succ]
  refine ext_take (i := 37) (oi := ?oia37) (v := ?va37) ?hia37 (by kernel_rfl) (by kernel_rfl) (by kernel_rfl) hQ ?hwa37 ?hya37 ?resta37
  case hia37 => simp only [List.getElem?_toArray, List.getElem?_cons_zero, List.getElem?_cons_succ]; rfl
  case hwa37 => rfl
  case hya37 => intro W hW; go_simp; with_reducible rfl
  simp only [Act.put, List.setIfInBounds_toArray, List.set_cons_zero, List.set_cons_succ]
  refine ext_take (i := 38) (oi := ?oia38) (v := ?va38) ?hia38 (by kernel_rfl) (by kernel_rfl) (by kernel_rfl) hQ ?hwa38 ?hya38 ?resta38
  case hia38 => simp only [List.getElem?_toArray, List.getElem?_cons_zero, List.getElem?_cons_succ]; rfl
  case hwa38 => rfl
  case hya38 => intro W hW; go_simp; with_reducible rfl
  simp only [Act.put, List.setIfInBounds_toArray, List.set_cons_zero, List.set_cons_succ]
  refine ext_take (i := 39) (oi := ?oia39) (v := ?va39) ?hia39 (by kernel_rfl) (by kernel_rfl) (by kernel_rfl) hQ ?hwa39 ?hya39 ?resta39
  case hia39 => simp only [List.getElem?_toArray, List.getElem?_cons_zero, List.getElem?_cons_succ]; rfl
  case hwa39 => rfl
  case hya39 => intro W hW; go_simp; with_reducible rfl
  simp only [Act.put, List.setIfInBounds_toArray, List.set_cons_zero, List.set_cons_succ]
  refine ext_take (i := 40) (oi := ?oia40) (v := ?va40) ?hia40 (by kernel_rfl) (by kernel_rfl) (by kernel_rfl) hQ ?hwa40 ?hya40 ?resta40
  case hia40 => simp only [List.getElem?_toArray, List.getElem?_cons_zero, List.getElem?_cons_succ]; rfl
  case hwa40 => rfl
  case hya40 => intro W hW; go_simp; with_reducible rfl
  simp only [Act.put, List.setIfInBounds_toArray, List.set_cons_zero, List.set_cons_succ]
  refine ext_step (i := 41) (oi := ?oia41) (by kernel_rfl) ?hia41 ?hwa41 (fun K hK => ?_)
  case hia41 => simp only [List.getElem?_toArray, List.getElem?_cons_zero, List.getElem?_cons_succ]; rfl
  case hwa41 => rfl
  go_simp
  refine (sameInts_any A n c l A9 n c9 l _ R R9 (by omega)).mono ?_; rintro e x5 ⟨rfl, b⟩; rw [show decide (l = l) = true from by simp]; replace R := R.mv b; replace R9 := R9.mv b; replace R1 := R1.mv b; replace R2 := R2.mv b; replace R3 := R3.mv b; replace R4 := R4.mv b; replace hk := hk.below b hk.lt; replace h14 := h14.below b h14.lt; replace h16 := h16.below b h16.lt; replace hB := hB.trans (b.mono hB.size); have X89 : ∀ W, Ext x5 W → W.cell? ⟨w.heap.size, 0, none⟩ = some (.slice A n c) := fun W h => ((hk.below h hk.lt).cell 0).trans rfl; have X90 : ∀ W, Ext x5 W → W.cell? ⟨w.heap.size, 1, none⟩ = some (.int .i64 st) := fun W h => ((hk.below h hk.lt).cell 1).trans rfl; have X91 : ∀ W, Ext x5 W → W.cell? ⟨w.heap.size, 2, none⟩ = some (.int .i64 sk) := fun W h => ((hk.below h hk.lt).cell 2).trans rfl; have X92 : ∀ W, Ext x5 W → W.cell? ⟨w.heap.size, 3, none⟩ = some (.int .i64 hp) := fun W h => ((hk.below h hk.lt).cell 3).trans rfl; have X93 : ∀ W, Ext x5 W → W.cell? ⟨w.heap.size, 4, none⟩ = some (.int .i64 rt) := fun W h => ((hk.below h hk.lt).cell 4).trans rfl; have X94 : ∀ W, Ext x5 W → W.cell? ⟨p14, 0, none⟩ = some (.slice A3 l2.length c3) := fun W h => ((h14.below h h14.lt).cell 0).trans rfl; have X95 : ∀ W, Ext x5 W → W.cell? ⟨p14, 1, none⟩ = some (.int .i64 z1) := fun W h => ((h14.below h h14.lt).cell 1).trans rfl; have X96 : ∀ W, Ext x5 W → W.cell? ⟨p14, 2, none⟩ = some (.int .i64 z2) := fun W h => ((h14.below h h14.lt).cell 2).trans rfl; have X97 : ∀ W, Ext x5 W → W.cell? ⟨p14, 3, none⟩ = some (.int .i64 z3) := fun W h => ((h14.below h h14.lt).cell 3).trans rfl; have X98 : ∀ W, Ext x5 W → W.cell? ⟨p14, 4, none⟩ = some (.int .i64 z4) := fun W h => ((h14.below h h14.lt).cell 4).trans rfl; have X99 : ∀ W, Ext x5 W → W.cell? ⟨p16, 0, none⟩ = some (.slice A4 l2.length c4) := fun W h => ((h16.below h h16.lt).cell 0).trans rfl; have X100 : ∀ W, Ext x5 W → W.cell? ⟨p16, 1, none⟩ = some (.int .i64 z1) := fun W h => ((h16.below h h16.lt).cell 1).trans rfl; have X101 : ∀ W, Ext x5 W → W.cell? ⟨p16, 2, none⟩ = some (.int .i64 z2) := fun W h => ((h16.below h h16.lt).cell 2).trans rfl; have X102 : ∀ W, Ext x5 W → W.cell? ⟨p16, 3, none⟩ = some (.int .i64 z3) := fun W h => ((h16.below h h16.lt).cell 3).trans rfl; have X103 : ∀ W, Ext x5 W → W.cell? ⟨p16, 4, none⟩ = some (.int .i64 z4) := fun W h => ((h16.below h h16.lt).cell 4).trans rfl; have X104 : ∀ W, Ext x5 W → CvS (A1) (l1.length) (c1) (l1) W := fun W h => cvS (c1) (Reads.below R1 h); have X105 : ∀ W, Ext x5 W → CvS (A2) (l1.length) (c2) (l1) W := fun W h => cvS (c2) (Reads.below R2 h); refine hK _ _ b ?_
  try simp only [Act.put, List.setIfInBounds_toArray, List.set_cons_zero, List.set_cons_succ]
  refine ext_take (i := 42) (oi := ?oia42) (v := ?va42) ?hia42 (by kernel_rfl) (by kernel_rfl) (by kernel_rfl) hQ ?hwa42 ?hya42 ?resta42
  case hia42 => simp only [List.getElem?_toArray, List.getElem?_cons_zero, List.getElem?_cons_succ]; rfl
  case hwa42 => rfl
  case hya42 => intro W hW; go_simp; with_reducible rfl
  simp only [Act.put, List.setIfInBounds_toArray, List.set_cons_zero, List.set_cons_succ]
  refine ext_take (i := 43) (oi := ?oia43) (v := ?va43) ?hia43 (by kernel_rfl) (by kernel_rfl) (by kernel_rfl) hQ ?hwa43 ?hya43 ?resta43
  case hia43 => simp only [List.getElem?_toArray, List.getElem?_cons_zero, List.getElem?_cons_succ]; rfl
  case hwa43 => rfl
  case hya43 => intro W hW; go_simp; with_reducible rfl
  simp only [Act.put, List.setIfInBounds_toArray, List.set_cons_zero, List.set_cons_succ]
  refine wpAnyH_done (by kernel_rfl) ?_ _
  clear X21 X22 X23 X24 X25 X26 X27 X28 X29 X30 X31 X32 X33 X34 X35 X36 X37 X38 X39 X40 X41 X42 X43 X44 X45 X46 X47 X48 X49 X50 X51 X52 X53 X54 X55 X56 X57 X58 X59 X60 X61 X62 X63 X64 X65 X66 X67 X68 X69 X70 X71 X72 X73 X74 X75 X76 X77 X78 X79 X80 X81 X82 X83 X84 X85 X86 X87 X88 X89 X90 X91 X92 X93 X94 X95 X96 X97 X98 X99 X100 X101 X102 X103 X104 X105
  go_wp2_with fail
  go_ret
  exact ⟨rfl, hB⟩

end Go.Proofs.Ytgobebiagpejkaa
