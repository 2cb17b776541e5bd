/- The walk of WireWrites: it returns true for every argument, and writes nothing that was there. -/
import Derived.Test.YtnonikeolpokkaaWireNew
import Derived.Test.YtnonikeolpokkaaOpen
import Derived.Test.YtnonikeolpokkaaRegion
namespace Go.Proofs.Ytnonikeolpokkaa
open Go.RowKit Wire
set_option linter.unusedVariables false

/-- The conversion of bytes to a string, in a world. -/
abbrev CvS (A : Option Addr) (n c : Nat) (l : List UInt8) (w : World) : Prop := (convert 23 9 (.slice A n c)).run Try.prog w = .ok (.string ⟨l.toArray⟩) w
theorem cvS {A : Option Addr} {n : Nat} {l : List UInt8} {w : World} {B : Nat} (c : Nat) (h : RdB w B A n l) : CvS A n c l w := conv_to_str _ _ _ Try.underlying23 Try.underlying5 Try.underlying9 c h

set_option maxRecDepth 100000 in
set_option maxHeartbeats 4000000 in
theorem wireWrites_walk (w : World) (n : Nat) (hn : n < 18446744073709551616) (a : Int) (ha : -9223372036854775808 ≤ a ∧ a ≤ 9223372036854775807) (i : Int) (hi : -9223372036854775808 ≤ i ∧ i ≤ 9223372036854775807)
    (s : ByteArray) (hs : s.size ≤ 9223372036854775807) (A : Option Addr) (m c : Nat) (l : List UInt8) (hr : Rb w A m l) (hc : m ≤ c ∧ c ≤ 9223372036854775807) :
    Calls Try.prog 3 #[.int .u64 (n : Int), .int .i64 a, .int .i64 i, .string s, .slice A m c] w fun e w' => e = .returned (.bool true) ∧ Below w.heap.size w w' := by
  have HR := Lib.hid hr
  have hm : m ≤ 9223372036854775807 := by omega
  have HN := Lib.hid hn
  have HA := Lib.hid ha
  have HI := Lib.hid hi
  have HS := Lib.hid hs
  clear hr hc hn ha hi hs
  cases hl1 : lgB s.size
  rotate_left
  · have HL := Lib.hid hl1
    clear hl1
    go_enter Try.func3, Try.ntmps3
    go_wp2_with (first
      | (refine wpList_to_bytes rfl 9 23 5 (.tmp 23) rfl Try.underlying9 Try.underlying23 Try.underlying5 s rfl ?_; intro A1 c1 w1 hr1 hb1 hc1)
      | (go_at_call 10; refine (long_any _ _ _ _).mono ?_; rintro e w2 ⟨rfl, rfl⟩; rw [HL.out]))
    go_ret
    exact ⟨rfl, hb1⟩
  have HL := Lib.hid hl1
  clear hl1
  cases hl2 : lgB m
  rotate_left
  · have HL2 := Lib.hid hl2
    clear hl2
    go_enter Try.func3, Try.ntmps3
    go_wp2_with (first
      | (refine wpList_to_bytes rfl 9 23 5 (.tmp 23) rfl Try.underlying9 Try.underlying23 Try.underlying5 s rfl ?_; intro A1 c1 w1 hr1 hb1 hc1)
      | (go_at_call 10; refine (long_any _ _ _ _).mono ?_; rintro e w2 ⟨rfl, rfl⟩; first | rw [HL.out] | rw [HL2.out]))
    go_ret
    exact ⟨rfl, hb1⟩
  have HL2 := Lib.hid hl2
  clear hl2
  go_enter Try.func3, Try.ntmps3
  go_wp2_with (first
    | (refine wpList_to_bytes rfl 9 23 5 (.tmp 23) rfl Try.underlying9 Try.underlying23 Try.underlying5 s rfl ?_; intro A1 c1 w1 hr1 hb1 hc1)
    | (go_at_call 10; refine (long_any _ _ _ _).mono ?_; rintro e w2 ⟨rfl, rfl⟩; first | rw [HL.out] | rw [HL2.out]))
  clear hr1 hc1
  have hB := hb1
  clear hb1
  refine (fixed_any n a HA.out HN.out _).mono ?_
  rintro e w2 ⟨A2, c2, rfl, h2, b2⟩
  have R2 := own_reads h2
  replace hB := hB.trans (b2.mono hB.size)
  clear h2 b2
  go_wp2_with fail
  refine (refixed_any n a HA.out HN.out _).mono ?_
  rintro e w3 ⟨A3, c3, rfl, h3, b3⟩
  have R3 := own_reads h3
  replace R2 := R2.mv b3
  replace hB := hB.trans (b3.mono hB.size)
  clear h3 b3
  go_wp2_with fail
  refine (text_any s HS.out _).mono ?_
  rintro e w4 ⟨A4, c4, rfl, h4, b4⟩
  have R4 := own_reads h4
  replace R2 := R2.mv b4
  replace R3 := R3.mv b4
  replace hB := hB.trans (b4.mono hB.size)
  clear h4 b4
  go_wp2_with fail
  refine (retext_any s HS.out _).mono ?_
  rintro e w5 ⟨A5, c5, rfl, h5, b5⟩
  have R5 := own_reads h5
  replace R2 := R2.mv b5
  replace R3 := R3.mv b5
  replace R4 := R4.mv b5
  replace hB := hB.trans (b5.mono hB.size)
  clear h5 b5
  go_wp2_with fail
  refine (new_any A m c l _ (HR.out.mv hB) hm).mono ?_
  rintro e w6 ⟨A6, c6, rfl, h6, b6⟩
  have R6 := own_reads h6
  replace R2 := R2.mv b6
  replace R3 := R3.mv b6
  replace R4 := R4.mv b6
  replace R5 := R5.mv b6
  replace hB := hB.trans (b6.mono hB.size)
  clear h6 b6
  have hk6 := Blk.new w6 33 #[.slice A6 (nwL l).length c6, .int .i64 0]
  have b7 := (Below.refl w6.heap.size w6).alloc (Nat.le_refl _) (.cells #[.slice A6 (nwL l).length c6, .int .i64 0] 33)
  go_wp2_with fail
  generalize hw7 : w6.alloc (.cells #[.slice A6 (nwL l).length c6, .int .i64 0] 33) = w7 at *
  replace R2 := R2.mv b7
  replace R3 := R3.mv b7
  replace R4 := R4.mv b7
  replace R5 := R5.mv b7
  replace R6 := R6.mv b7
  replace hB := hB.trans (b7.mono hB.size)
  clear b7 hw7
  refine (renew_any A m c l _ (HR.out.mv hB) hm).mono ?_
  rintro e w8 ⟨A8, c8, rfl, h8, b8⟩
  have R8 := own_reads h8
  replace R2 := R2.mv b8
  replace R3 := R3.mv b8
  replace R4 := R4.mv b8
  replace R5 := R5.mv b8
  replace R6 := R6.mv b8
  replace hk6 := hk6.below b8 hk6.lt
  replace hB := hB.trans (b8.mono hB.size)
  clear h8 b8
  have hk8 := Blk.new w8 33 #[.slice A8 (nwL l).length c8, .int .i64 0]
  have b9 := (Below.refl w8.heap.size w8).alloc (Nat.le_refl _) (.cells #[.slice A8 (nwL l).length c8, .int .i64 0] 33)
  go_wp2_with fail
  generalize hw9 : w8.alloc (.cells #[.slice A8 (nwL l).length c8, .int .i64 0] 33) = w9 at *
  replace R2 := R2.mv b9
  replace R3 := R3.mv b9
  replace R4 := R4.mv b9
  replace R5 := R5.mv b9
  replace R6 := R6.mv b9
  replace R8 := R8.mv b9
  replace hk6 := hk6.below b9 hk6.lt
  replace hB := hB.trans (b9.mono hB.size)
  clear b9 hw9
  have g6 := hk6.lt
  have g8 := hk8.lt
  generalize w6.heap.size = p6 at *
  generalize w8.heap.size = p8 at *
  have K2 : ∀ W, Below w9.heap.size w9 W → CvS A2 (fxL n a).length c2 (fxL n a) W := fun W h => cvS c2 (R2.below h)
  have K3 : ∀ W, Below w9.heap.size w9 W → CvS A3 (fxL n a).length c3 (fxL n a) W := fun W h => cvS c3 (R3.below h)
  have K4 : ∀ W, Below w9.heap.size w9 W → CvS A4 (txL s).length c4 (txL s) W := fun W h => cvS c4 (R4.below h)
  have K5 : ∀ W, Below w9.heap.size w9 W → CvS A5 (txL s).length c5 (txL s) W := fun W h => cvS c5 (R5.below h)
  have HV := Lib.hid (fun W => vary_any n HN.out W)
  have HM := Lib.hid (fun W => minimal_any n HN.out W)
  have HG := Lib.hid (fun W => signed_any i HI.out W)
  have HD := Lib.hid (fun W => double_any i HI.out W)
  have HE := Lib.hid (fun W => minimal_any (dbl i) (dbl_lt HI.out) W)
  have HQ : Hid (∀ W, Below w9.heap.size w9 W → Calls Try.prog 17 #[cur A6 (nwL l).length c6 0, cur A8 (nwL l).length c8 0] W fun e w' => e = .returned (.bool true) ∧ Below W.heap.size W w') :=
    Lib.hid fun W h => same_any A6 A8 _ c6 _ c8 (nwL l) 0 W ((R6.below h).more h.size) ((R8.below h).more h.size)
  have HC : Hid (∀ W, Below w9.heap.size w9 W → W.cell? ⟨p6, 0, none⟩ = some (.slice A6 (nwL l).length c6) ∧ W.cell? ⟨p6, 1, none⟩ = some (.int .i64 0) ∧ W.cell? ⟨p8, 0, none⟩ = some (.slice A8 (nwL l).length c8) ∧ W.cell? ⟨p8, 1, none⟩ = some (.int .i64 0) ∧ Below w9.heap.size w9 W) :=
    Lib.hid fun W h => ⟨((hk6.below h g6).cell 0).trans rfl, ((hk6.below h g6).cell 1).trans rfl, ((hk8.below h g8).cell 0).trans rfl, ((hk8.below h g8).cell 1).trans rfl, h⟩
  clear hk6 hk8 R2 R3 R4 R5 R6 R8 g6 g8 HN HA HI HS HL HL2 HR
  generalize (fxL n a).length = n2 at *
  generalize (txL s).length = n4 at *
  generalize (nwL l).length = n6 at *
  generalize (vry n).length = nv at *
  generalize (vry (dbl i)).length = nd at *
  generalize fxE n a = e2 at *
  generalize txE s = e4 at *
  generalize nwE l = e6 at *
  generalize fxL n a = l2 at *
  generalize txL s = l4 at *
  generalize dbl i = q at *
  have HB := Lib.hid hB
  clear hB
  refine ext_start (by kernel_rfl) (calm_then calm_body) (fun hQ => ?_)
  have hX0 : ∀ W, Ext w9.drew W → Below w9.heap.size w9 W := fun W h => (Ext.refl w9).draw.trans h
  have hW0 := Ext.refl w9.drew
  replace K2 : ∀ W, Ext w9.drew W → CvS A2 n2 c2 l2 W := fun W h => K2 W (hX0 W h)
  replace K3 : ∀ W, Ext w9.drew W → CvS A3 n2 c3 l2 W := fun W h => K3 W (hX0 W h)
  replace K4 : ∀ W, Ext w9.drew W → CvS A4 n4 c4 l4 W := fun W h => K4 W (hX0 W h)
  replace K5 : ∀ W, Ext w9.drew W → CvS A5 n4 c5 l4 W := fun W h => K5 W (hX0 W h)
  have C0 : ∀ W, Ext w9.drew W → W.cell? ⟨p6, 0, none⟩ = some (.slice A6 n6 c6) := fun W h => (HC.out W (hX0 W h)).1
  have C1 : ∀ W, Ext w9.drew W → W.cell? ⟨p6, 1, none⟩ = some (.int .i64 0) := fun W h => (HC.out W (hX0 W h)).2.1
  have C2 : ∀ W, Ext w9.drew W → W.cell? ⟨p8, 0, none⟩ = some (.slice A8 n6 c8) := fun W h => (HC.out W (hX0 W h)).2.2.1
  have C3 : ∀ W, Ext w9.drew W → W.cell? ⟨p8, 1, none⟩ = some (.int .i64 0) := fun W h => (HC.out W (hX0 W h)).2.2.2.1
  refine ext_take (i := 0) (oi := ?oi0) (v := ?v0) ?hi0 (by kernel_rfl) (by kernel_rfl) (by kernel_rfl) hQ ?hw0 ?hy0 ?rest0
  case hi0 => simp only [List.getElem?_toArray, List.getElem?_cons_zero]; rfl
  case hw0 => rfl
  case hy0 => intro W hW; go_simp; with_reducible rfl
  simp only [Act.put, List.setIfInBounds_toArray, List.set_cons_zero, List.set_cons_succ]
  refine ext_take (i := 1) (oi := ?oi1) (v := ?v1) ?hi1 (by kernel_rfl) (by kernel_rfl) (by kernel_rfl) hQ ?hw1 ?hy1 ?rest1
  case hi1 => simp only [List.getElem?_toArray, List.getElem?_cons_zero, List.getElem?_cons_succ]; rfl
  case hw1 => rfl
  case hy1 => intro W hW; go_simp; with_reducible rfl
  simp only [Act.put, List.setIfInBounds_toArray, List.set_cons_zero, List.set_cons_succ]
  refine ext_take (i := 2) (oi := ?oi2) (v := ?v2) ?hi2 (by kernel_rfl) (by kernel_rfl) (by kernel_rfl) hQ ?hw2 ?hy2 ?rest2
  case hi2 => simp only [List.getElem?_toArray, List.getElem?_cons_zero, List.getElem?_cons_succ]; rfl
  case hw2 => rfl
  case hy2 => intro W hW; go_simp; with_reducible rfl
  simp only [Act.put, List.setIfInBounds_toArray, List.set_cons_zero, List.set_cons_succ]
  refine ext_take (i := 3) (oi := ?oi3) (v := ?v3) ?hi3 (by kernel_rfl) (by kernel_rfl) (by kernel_rfl) hQ ?hw3 ?hy3 ?rest3
  case hi3 => simp only [List.getElem?_toArray, List.getElem?_cons_zero, List.getElem?_cons_succ]; rfl
  case hw3 => rfl
  case hy3 => intro W hW; go_simp; with_reducible rfl
  simp only [Act.put, List.setIfInBounds_toArray, List.set_cons_zero, List.set_cons_succ]
  refine ext_take (i := 4) (oi := ?oi4) (v := ?v4) ?hi4 (by kernel_rfl) (by kernel_rfl) (by kernel_rfl) hQ ?hw4 ?hy4 ?rest4
  case hi4 => simp only [List.getElem?_toArray, List.getElem?_cons_zero, List.getElem?_cons_succ]; rfl
  case hw4 => rfl
  case hy4 => intro W hW; go_simp; with_reducible rfl
  simp only [Act.put, List.setIfInBounds_toArray, List.set_cons_zero, List.set_cons_succ]
  refine ext_take (i := 5) (oi := ?oi5) (v := ?v5) ?hi5 (by kernel_rfl) (by kernel_rfl) (by kernel_rfl) hQ ?hw5 ?hy5 ?rest5
  case hi5 => simp only [List.getElem?_toArray, List.getElem?_cons_zero, List.getElem?_cons_succ]; rfl
  case hw5 => rfl
  case hy5 => intro W hW; go_simp; with_reducible rfl
  simp only [Act.put, List.setIfInBounds_toArray, List.set_cons_zero, List.set_cons_succ]
  refine ext_take (i := 6) (oi := ?oi6) (v := ?v6) ?hi6 (by kernel_rfl) (by kernel_rfl) (by kernel_rfl) hQ ?hw6 ?hy6 ?rest6
  case hi6 => simp only [List.getElem?_toArray, List.getElem?_cons_zero, List.getElem?_cons_succ]; rfl
  case hw6 => rfl
  case hy6 => intro W hW; go_simp; with_reducible rfl
  simp only [Act.put, List.setIfInBounds_toArray, List.set_cons_zero, List.set_cons_succ]
  refine ext_take (i := 7) (oi := ?oi7) (v := ?v7) ?hi7 (by kernel_rfl) (by kernel_rfl) (by kernel_rfl) hQ ?hw7 ?hy7 ?rest7
  case hi7 => simp only [List.getElem?_toArray, List.getElem?_cons_zero, List.getElem?_cons_succ]; rfl
  case hw7 => rfl
  case hy7 => intro W hW; go_simp; with_reducible rfl
  simp only [Act.put, List.setIfInBounds_toArray, List.set_cons_zero, List.set_cons_succ]
  refine ext_take (i := 8) (oi := ?oi8) (v := ?v8) ?hi8 (by kernel_rfl) (by kernel_rfl) (by kernel_rfl) hQ ?hw8 ?hy8 ?rest8
  case hi8 => simp only [List.getElem?_toArray, List.getElem?_cons_zero, List.getElem?_cons_succ]; rfl
  case hw8 => rfl
  case hy8 => intro W hW; go_simp; with_reducible rfl
  simp only [Act.put, List.setIfInBounds_toArray, List.set_cons_zero, List.set_cons_succ]
  refine ext_take (i := 9) (oi := ?oi9) (v := ?v9) ?hi9 (by kernel_rfl) (by kernel_rfl) (by kernel_rfl) hQ ?hw9 ?hy9 ?rest9
  case hi9 => simp only [List.getElem?_toArray, List.getElem?_cons_zero, List.getElem?_cons_succ]; rfl
  case hw9 => rfl
  case hy9 => intro W hW; go_simp; with_reducible rfl
  simp only [Act.put, List.setIfInBounds_toArray, List.set_cons_zero, List.set_cons_succ]
  refine ext_take (i := 10) (oi := ?oi10) (v := ?v10) ?hi10 (by kernel_rfl) (by kernel_rfl) (by kernel_rfl) hQ ?hw10 ?hy10 ?rest10
  case hi10 => simp only [List.getElem?_toArray, List.getElem?_cons_zero, List.getElem?_cons_succ]; rfl
  case hw10 => rfl
  case hy10 => intro W hW; go_simp; with_reducible rfl
  simp only [Act.put, List.setIfInBounds_toArray, List.set_cons_zero, List.set_cons_succ]
  refine ext_take (i := 11) (oi := ?oi11) (v := ?v11) ?hi11 (by kernel_rfl) (by kernel_rfl) (by kernel_rfl) hQ ?hw11 ?hy11 ?rest11
  case hi11 => simp only [List.getElem?_toArray, List.getElem?_cons_zero, List.getElem?_cons_succ]; rfl
  case hw11 => rfl
  case hy11 => intro W hW; go_simp; with_reducible rfl
  simp only [Act.put, List.setIfInBounds_toArray, List.set_cons_zero, List.set_cons_succ]
  refine ext_take (i := 12) (oi := ?oi12) (v := ?v12) ?hi12 (by kernel_rfl) (by kernel_rfl) (by kernel_rfl) hQ ?hw12 ?hy12 ?rest12
  case hi12 => simp only [List.getElem?_toArray, List.getElem?_cons_zero, List.getElem?_cons_succ]; rfl
  case hw12 => rfl
  case hy12 => intro W hW; go_simp; with_reducible rfl
  simp only [Act.put, List.setIfInBounds_toArray, List.set_cons_zero, List.set_cons_succ]
  refine ext_take (i := 13) (oi := ?oi13) (v := ?v13) ?hi13 (by kernel_rfl) (by kernel_rfl) (by kernel_rfl) hQ ?hw13 ?hy13 ?rest13
  case hi13 => simp only [List.getElem?_toArray, List.getElem?_cons_zero, List.getElem?_cons_succ]; rfl
  case hw13 => rfl
  case hy13 => intro W hW; go_simp; with_reducible rfl
  simp only [Act.put, List.setIfInBounds_toArray, List.set_cons_zero, List.set_cons_succ]
  refine ext_take (i := 14) (oi := ?oi14) (v := ?v14) ?hi14 (by kernel_rfl) (by kernel_rfl) (by kernel_rfl) hQ ?hw14 ?hy14 ?rest14
  case hi14 => simp only [List.getElem?_toArray, List.getElem?_cons_zero, List.getElem?_cons_succ]; rfl
  case hw14 => rfl
  case hy14 => intro W hW; go_simp; with_reducible rfl
  simp only [Act.put, List.setIfInBounds_toArray, List.set_cons_zero, List.set_cons_succ]
  refine ext_take (i := 15) (oi := ?oi15) (v := ?v15) ?hi15 (by kernel_rfl) (by kernel_rfl) (by kernel_rfl) hQ ?hw15 ?hy15 ?rest15
  case hi15 => simp only [List.getElem?_toArray, List.getElem?_cons_zero, List.getElem?_cons_succ]; rfl
  case hw15 => rfl
  case hy15 => intro W hW; go_simp; with_reducible rfl
  simp only [Act.put, List.setIfInBounds_toArray, List.set_cons_zero, List.set_cons_succ]
  refine ext_take (i := 16) (oi := ?oi16) (v := ?v16) ?hi16 (by kernel_rfl) (by kernel_rfl) (by kernel_rfl) hQ ?hw16 ?hy16 ?rest16
  case hi16 => simp only [List.getElem?_toArray, List.getElem?_cons_zero, List.getElem?_cons_succ]; rfl
  case hw16 => rfl
  case hy16 => intro W hW; go_simp; with_reducible rfl
  simp only [Act.put, List.setIfInBounds_toArray, List.set_cons_zero, List.set_cons_succ]
  refine ext_take (i := 17) (oi := ?oi17) (v := ?v17) ?hi17 (by kernel_rfl) (by kernel_rfl) (by kernel_rfl) hQ ?hw17 ?hy17 ?rest17
  case hi17 => simp only [List.getElem?_toArray, List.getElem?_cons_zero, List.getElem?_cons_succ]; rfl
  case hw17 => rfl
  case hy17 => intro W hW; go_simp; with_reducible rfl
  simp only [Act.put, List.setIfInBounds_toArray, List.set_cons_zero, List.set_cons_succ]
  refine ext_take (i := 18) (oi := ?oi18) (v := ?v18) ?hi18 (by kernel_rfl) (by kernel_rfl) (by kernel_rfl) hQ ?hw18 ?hy18 ?rest18
  case hi18 => simp only [List.getElem?_toArray, List.getElem?_cons_zero, List.getElem?_cons_succ]; rfl
  case hw18 => rfl
  case hy18 => intro W hW; go_simp; with_reducible rfl
  simp only [Act.put, List.setIfInBounds_toArray, List.set_cons_zero, List.set_cons_succ]
  refine ext_take (i := 19) (oi := ?oi19) (v := ?v19) ?hi19 (by kernel_rfl) (by kernel_rfl) (by kernel_rfl) hQ ?hw19 ?hy19 ?rest19
  case hi19 => simp only [List.getElem?_toArray, List.getElem?_cons_zero, List.getElem?_cons_succ]; rfl
  case hw19 => rfl
  case hy19 => intro W hW; go_simp; with_reducible rfl
  simp only [Act.put, List.setIfInBounds_toArray, List.set_cons_zero, List.set_cons_succ]
  refine ext_take (i := 20) (oi := ?oi20) (v := ?v20) ?hi20 (by kernel_rfl) (by kernel_rfl) (by kernel_rfl) hQ ?hw20 ?hy20 ?rest20
  case hi20 => simp only [List.getElem?_toArray, List.getElem?_cons_zero, List.getElem?_cons_succ]; rfl
  case hw20 => rfl
  case hy20 => intro W hW; go_simp; with_reducible rfl
  simp only [Act.put, List.setIfInBounds_toArray, List.set_cons_zero, List.set_cons_succ]
  refine ext_take (i := 21) (oi := ?oi21) (v := ?v21) ?hi21 (by kernel_rfl) (by kernel_rfl) (by kernel_rfl) hQ ?hw21 ?hy21 ?rest21
  case hi21 => simp only [List.getElem?_toArray, List.getElem?_cons_zero, List.getElem?_cons_succ]; rfl
  case hw21 => rfl
  case hy21 => intro W hW; go_simp; with_reducible rfl
  simp only [Act.put, List.setIfInBounds_toArray, List.set_cons_zero, List.set_cons_succ]
  refine ext_take (i := 22) (oi := ?oi22) (v := ?v22) ?hi22 (by kernel_rfl) (by kernel_rfl) (by kernel_rfl) hQ ?hw22 ?hy22 ?rest22
  case hi22 => simp only [List.getElem?_toArray, List.getElem?_cons_zero, List.getElem?_cons_succ]; rfl
  case hw22 => rfl
  case hy22 => intro W hW; go_simp; with_reducible rfl
  simp only [Act.put, List.setIfInBounds_toArray, List.set_cons_zero, List.set_cons_succ]
  refine ext_take (i := 23) (oi := ?oi23) (v := ?v23) ?hi23 (by kernel_rfl) (by kernel_rfl) (by kernel_rfl) hQ ?hw23 ?hy23 ?rest23
  case hi23 => simp only [List.getElem?_toArray, List.getElem?_cons_zero, List.getElem?_cons_succ]; rfl
  case hw23 => rfl
  case hy23 => intro W hW; go_simp; with_reducible rfl
  simp only [Act.put, List.setIfInBounds_toArray, List.set_cons_zero, List.set_cons_succ]
  refine ext_take (i := 24) (oi := ?oi24) (v := ?v24) ?hi24 (by kernel_rfl) (by kernel_rfl) (by kernel_rfl) hQ ?hw24 ?hy24 ?rest24
  case hi24 => simp only [List.getElem?_toArray, List.getElem?_cons_zero, List.getElem?_cons_succ]; rfl
  case hw24 => rfl
  case hy24 => intro W hW; go_simp; with_reducible rfl
  simp only [Act.put, List.setIfInBounds_toArray, List.set_cons_zero, List.set_cons_succ]
  refine ext_step (i := 25) (oi := ?oi25) (by kernel_rfl) ?hi25 ?hw25 (fun K hK => ?_)
  case hi25 => simp only [List.getElem?_toArray, List.getElem?_cons_zero, List.getElem?_cons_succ]; rfl
  case hw25 => rfl
  go_simp
  refine (HQ.out _ (hX0 _ hW0)).mono ?_; rintro e wa ⟨rfl, ba⟩; refine hK _ _ ba ?_
  try simp only [Act.put, List.setIfInBounds_toArray, List.set_cons_zero, List.set_cons_succ]
  refine ext_take (i := 26) (oi := ?oi26) (v := ?v26) ?hi26 (by kernel_rfl) (by kernel_rfl) (by kernel_rfl) hQ ?hw26 ?hy26 ?rest26
  case hi26 => simp only [List.getElem?_toArray, List.getElem?_cons_zero, List.getElem?_cons_succ]; rfl
  case hw26 => rfl
  case hy26 => intro W hW; go_simp; with_reducible rfl
  simp only [Act.put, List.setIfInBounds_toArray, List.set_cons_zero, List.set_cons_succ]
  refine ext_take (i := 27) (oi := ?oi27) (v := ?v27) ?hi27 (by kernel_rfl) (by kernel_rfl) (by kernel_rfl) hQ ?hw27 ?hy27 ?rest27
  case hi27 => simp only [List.getElem?_toArray, List.getElem?_cons_zero, List.getElem?_cons_succ]; rfl
  case hw27 => rfl
  case hy27 => intro W hW; go_simp; with_reducible rfl
  simp only [Act.put, List.setIfInBounds_toArray, List.set_cons_zero, List.set_cons_succ]
  refine ext_take (i := 28) (oi := ?oi28) (v := ?v28) ?hi28 (by kernel_rfl) (by kernel_rfl) (by kernel_rfl) hQ ?hw28 ?hy28 ?rest28
  case hi28 => simp only [List.getElem?_toArray, List.getElem?_cons_zero, List.getElem?_cons_succ]; rfl
  case hw28 => rfl
  case hy28 => intro W hW; go_simp; with_reducible rfl
  simp only [Act.put, List.setIfInBounds_toArray, List.set_cons_zero, List.set_cons_succ]
  refine ext_take (i := 29) (oi := ?oi29) (v := ?v29) ?hi29 (by kernel_rfl) (by kernel_rfl) (by kernel_rfl) hQ ?hw29 ?hy29 ?rest29
  case hi29 => simp only [List.getElem?_toArray, List.getElem?_cons_zero, List.getElem?_cons_succ]; rfl
  case hw29 => rfl
  case hy29 => intro W hW; go_simp; with_reducible rfl
  simp only [Act.put, List.setIfInBounds_toArray, List.set_cons_zero, List.set_cons_succ]
  refine ext_take (i := 30) (oi := ?oi30) (v := ?v30) ?hi30 (by kernel_rfl) (by kernel_rfl) (by kernel_rfl) hQ ?hw30 ?hy30 ?rest30
  case hi30 => simp only [List.getElem?_toArray, List.getElem?_cons_zero, List.getElem?_cons_succ]; rfl
  case hw30 => rfl
  case hy30 => intro W hW; go_simp; with_reducible rfl
  simp only [Act.put, List.setIfInBounds_toArray, List.set_cons_zero, List.set_cons_succ]
  refine ext_take (i := 31) (oi := ?oi31) (v := ?v31) ?hi31 (by kernel_rfl) (by kernel_rfl) (by kernel_rfl) hQ ?hw31 ?hy31 ?rest31
  case hi31 => simp only [List.getElem?_toArray, List.getElem?_cons_zero, List.getElem?_cons_succ]; rfl
  case hw31 => rfl
  case hy31 => intro W hW; go_simp; with_reducible rfl
  simp only [Act.put, List.setIfInBounds_toArray, List.set_cons_zero, List.set_cons_succ]
  refine ext_take (i := 32) (oi := ?oi32) (v := ?v32) ?hi32 (by kernel_rfl) (by kernel_rfl) (by kernel_rfl) hQ ?hw32 ?hy32 ?rest32
  case hi32 => simp only [List.getElem?_toArray, List.getElem?_cons_zero, List.getElem?_cons_succ]; rfl
  case hw32 => rfl
  case hy32 => intro W hW; go_simp; with_reducible rfl
  simp only [Act.put, List.setIfInBounds_toArray, List.set_cons_zero, List.set_cons_succ]
  refine ext_take (i := 33) (oi := ?oi33) (v := ?v33) ?hi33 (by kernel_rfl) (by kernel_rfl) (by kernel_rfl) hQ ?hw33 ?hy33 ?rest33
  case hi33 => simp only [List.getElem?_toArray, List.getElem?_cons_zero, List.getElem?_cons_succ]; rfl
  case hw33 => rfl
  case hy33 => intro W hW; go_simp; with_reducible rfl
  simp only [Act.put, List.setIfInBounds_toArray, List.set_cons_zero, List.set_cons_succ]
  refine ext_take (i := 36) (oi := ?oi36) (v := ?v36) ?hi36 (by kernel_rfl) (by kernel_rfl) (by kernel_rfl) hQ ?hw36 ?hy36 ?rest36
  case hi36 => simp only [List.getElem?_toArray, List.getElem?_cons_zero, List.getElem?_cons_succ]; rfl
  case hw36 => rfl
  case hy36 => intro W hW; go_simp; with_reducible rfl
  simp only [Act.put, List.setIfInBounds_toArray, List.set_cons_zero, List.set_cons_succ]
  refine ext_step (i := 34) (oi := ?oi34) (by kernel_rfl) ?hi34 ?hw34 (fun K hK => ?_)
  case hi34 => simp only [List.getElem?_toArray, List.getElem?_cons_zero, List.getElem?_cons_succ]; rfl
  case hw34 => rfl
  go_simp
  refine (HV.out _).mono ?_; rintro e wb ⟨Ab, cb, rfl, ob, bb⟩; have Rb_ := own_reads ob; have Kb := fun W (h : Ext wb W) => cvS cb (Rb_.below h); refine hK _ _ bb ?_
  try simp only [Act.put, List.setIfInBounds_toArray, List.set_cons_zero, List.set_cons_succ]
  refine ext_take (i := 35) (oi := ?oi35) (v := ?v35) ?hi35 (by kernel_rfl) (by kernel_rfl) (by kernel_rfl) hQ ?hw35 ?hy35 ?rest35
  case hi35 => simp only [List.getElem?_toArray, List.getElem?_cons_zero, List.getElem?_cons_succ]; rfl
  case hw35 => rfl
  case hy35 => intro W hW; go_simp; with_reducible rfl
  simp only [Act.put, List.setIfInBounds_toArray, List.set_cons_zero, List.set_cons_succ]
  refine ext_step (i := 37) (oi := ?oi37) (by kernel_rfl) ?hi37 ?hw37 (fun K hK => ?_)
  case hi37 => simp only [List.getElem?_toArray, List.getElem?_cons_zero, List.getElem?_cons_succ]; rfl
  case hw37 => rfl
  go_simp
  refine (HM.out _).mono ?_; rintro e wc ⟨Ac, cc, rfl, oc, bc⟩; have Rc_ := own_reads oc; have Kc := fun W (h : Ext wc W) => cvS cc (Rc_.below h); have Kb2 := fun W (h : Ext wc W) => Kb W (Ext.trans bc h); refine hK _ _ bc ?_
  try simp only [Act.put, List.setIfInBounds_toArray, List.set_cons_zero, List.set_cons_succ]
  refine ext_take (i := 38) (oi := ?oi38) (v := ?v38) ?hi38 (by kernel_rfl) (by kernel_rfl) (by kernel_rfl) hQ ?hw38 ?hy38 ?rest38
  case hi38 => simp only [List.getElem?_toArray, List.getElem?_cons_zero, List.getElem?_cons_succ]; rfl
  case hw38 => rfl
  case hy38 => intro W hW; go_simp; with_reducible rfl
  simp only [Act.put, List.setIfInBounds_toArray, List.set_cons_zero, List.set_cons_succ]
  refine ext_take (i := 39) (oi := ?oi39) (v := ?v39) ?hi39 (by kernel_rfl) (by kernel_rfl) (by kernel_rfl) hQ ?hw39 ?hy39 ?rest39
  case hi39 => simp only [List.getElem?_toArray, List.getElem?_cons_zero, List.getElem?_cons_succ]; rfl
  case hw39 => rfl
  case hy39 => intro W hW; go_simp; with_reducible rfl
  simp only [Act.put, List.setIfInBounds_toArray, List.set_cons_zero, List.set_cons_succ]
  refine ext_take (i := 40) (oi := ?oi40) (v := ?v40) ?hi40 (by kernel_rfl) (by kernel_rfl) (by kernel_rfl) hQ ?hw40 ?hy40 ?rest40
  case hi40 => simp only [List.getElem?_toArray, List.getElem?_cons_zero, List.getElem?_cons_succ]; rfl
  case hw40 => rfl
  case hy40 => intro W hW; go_simp; with_reducible rfl
  simp only [Act.put, List.setIfInBounds_toArray, List.set_cons_zero, List.set_cons_succ]
  refine ext_take (i := 41) (oi := ?oi41) (v := ?v41) ?hi41 (by kernel_rfl) (by kernel_rfl) (by kernel_rfl) hQ ?hw41 ?hy41 ?rest41
  case hi41 => simp only [List.getElem?_toArray, List.getElem?_cons_zero, List.getElem?_cons_succ]; rfl
  case hw41 => rfl
  case hy41 => intro W hW; go_simp; with_reducible rfl
  simp only [Act.put, List.setIfInBounds_toArray, List.set_cons_zero, List.set_cons_succ]
  refine ext_take (i := 42) (oi := ?oi42) (v := ?v42) ?hi42 (by kernel_rfl) (by kernel_rfl) (by kernel_rfl) hQ ?hw42 ?hy42 ?rest42
  case hi42 => simp only [List.getElem?_toArray, List.getElem?_cons_zero, List.getElem?_cons_succ]; rfl
  case hw42 => rfl
  case hy42 => intro W hW; go_simp; with_reducible rfl
  simp only [Act.put, List.setIfInBounds_toArray, List.set_cons_zero, List.set_cons_succ]
  refine ext_take (i := 45) (oi := ?oi45) (v := ?v45) ?hi45 (by kernel_rfl) (by kernel_rfl) (by kernel_rfl) hQ ?hw45 ?hy45 ?rest45
  case hi45 => simp only [List.getElem?_toArray, List.getElem?_cons_zero, List.getElem?_cons_succ]; rfl
  case hw45 => rfl
  case hy45 => intro W hW; go_simp; with_reducible rfl
  simp only [Act.put, List.setIfInBounds_toArray, List.set_cons_zero, List.set_cons_succ]
  refine ext_step (i := 43) (oi := ?oi43) (by kernel_rfl) ?hi43 ?hw43 (fun K hK => ?_)
  case hi43 => simp only [List.getElem?_toArray, List.getElem?_cons_zero, List.getElem?_cons_succ]; rfl
  case hw43 => rfl
  go_simp
  refine (HG.out _).mono ?_; rintro e wd ⟨Ad, cd, rfl, od, bd⟩; have Rd_ := own_reads od; have Kd := fun W (h : Ext wd W) => cvS cd (Rd_.below h); refine hK _ _ bd ?_
  try simp only [Act.put, List.setIfInBounds_toArray, List.set_cons_zero, List.set_cons_succ]
  refine ext_take (i := 44) (oi := ?oi44) (v := ?v44) ?hi44 (by kernel_rfl) (by kernel_rfl) (by kernel_rfl) hQ ?hw44 ?hy44 ?rest44
  case hi44 => simp only [List.getElem?_toArray, List.getElem?_cons_zero, List.getElem?_cons_succ]; rfl
  case hw44 => rfl
  case hy44 => intro W hW; go_simp; with_reducible rfl
  simp only [Act.put, List.setIfInBounds_toArray, List.set_cons_zero, List.set_cons_succ]
  refine ext_step (i := 46) (oi := ?oi46) (by kernel_rfl) ?hi46 ?hw46 (fun K hK => ?_)
  case hi46 => simp only [List.getElem?_toArray, List.getElem?_cons_zero, List.getElem?_cons_succ]; rfl
  case hw46 => rfl
  go_simp
  refine (HD.out _).mono ?_; rintro e wz ⟨rfl, rfl⟩; refine hK _ _ (Ext.refl _) ?_
  try simp only [Act.put, List.setIfInBounds_toArray, List.set_cons_zero, List.set_cons_succ]
  refine ext_step (i := 47) (oi := ?oi47) (by kernel_rfl) ?hi47 ?hw47 (fun K hK => ?_)
  case hi47 => simp only [List.getElem?_toArray, List.getElem?_cons_zero, List.getElem?_cons_succ]; rfl
  case hw47 => rfl
  go_simp
  refine (HE.out _).mono ?_; rintro e wf ⟨Af, cf, rfl, of_, bf⟩; have Rf_ := own_reads of_; have Kf := fun W (h : Ext wf W) => cvS cf (Rf_.below h); refine hK _ _ bf ?_
  try simp only [Act.put, List.setIfInBounds_toArray, List.set_cons_zero, List.set_cons_succ]
  refine ext_take (i := 48) (oi := ?oi48) (v := ?v48) ?hi48 (by kernel_rfl) (by kernel_rfl) (by kernel_rfl) hQ ?hw48 ?hy48 ?rest48
  case hi48 => simp only [List.getElem?_toArray, List.getElem?_cons_zero, List.getElem?_cons_succ]; rfl
  case hw48 => rfl
  case hy48 => intro W hW; go_simp; with_reducible rfl
  simp only [Act.put, List.setIfInBounds_toArray, List.set_cons_zero, List.set_cons_succ]
  refine ext_take (i := 49) (oi := ?oi49) (v := ?v49) ?hi49 (by kernel_rfl) (by kernel_rfl) (by kernel_rfl) hQ ?hw49 ?hy49 ?rest49
  case hi49 => simp only [List.getElem?_toArray, List.getElem?_cons_zero, List.getElem?_cons_succ]; rfl
  case hw49 => rfl
  case hy49 => intro W hW; go_simp; with_reducible rfl
  simp only [Act.put, List.setIfInBounds_toArray, List.set_cons_zero, List.set_cons_succ]
  refine ext_take (i := 50) (oi := ?oi50) (v := ?v50) ?hi50 (by kernel_rfl) (by kernel_rfl) (by kernel_rfl) hQ ?hw50 ?hy50 ?rest50
  case hi50 => simp only [List.getElem?_toArray, List.getElem?_cons_zero, List.getElem?_cons_succ]; rfl
  case hw50 => rfl
  case hy50 => intro W hW; go_simp; with_reducible rfl
  simp only [Act.put, List.setIfInBounds_toArray, List.set_cons_zero, List.set_cons_succ]
  refine ext_take (i := 51) (oi := ?oi51) (v := ?v51) ?hi51 (by kernel_rfl) (by kernel_rfl) (by kernel_rfl) hQ ?hw51 ?hy51 ?rest51
  case hi51 => simp only [List.getElem?_toArray, List.getElem?_cons_zero, List.getElem?_cons_succ]; rfl
  case hw51 => rfl
  case hy51 => intro W hW; go_simp; with_reducible rfl
  simp only [Act.put, List.setIfInBounds_toArray, List.set_cons_zero, List.set_cons_succ]
  refine wpAnyH_done (by kernel_rfl) ?_ _
  have hE : Below w9.heap.size w9 wf := hX0 _ ((((Ext.trans ba bb).trans bc).trans bd).trans bf)
  have hF := HB.out.trans (hE.mono HB.out.size)
  clear hX0 K2 K3 K4 K5 C0 C1 C2 C3 Kb Kc Kd Kf Kb2 HQ HC HV HM HG HD HE
  go_wp2_with fail
  go_ret
  exact ⟨rfl, hF⟩
end Go.Proofs.Ytnonikeolpokkaa
