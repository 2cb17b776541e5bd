/- The walk of TablesBack. -/
import Derived.Test.YtibkimmagiijnaaTabBackLaw
import Derived.Test.YtibkimmagiijnaaTablesTells
namespace Go.Proofs.Ytibkimmagiijnaa
open Go.RowKit Wire
set_option linter.unusedVariables false

set_option maxRecDepth 100000 in
set_option maxHeartbeats 8000000 in
theorem tablesBack_walk (w : World) (A : Option Addr) (n c : Nat) (L : List (Int × Nat)) (hr : RdN w A n L) (hc : n ≤ c ∧ c ≤ 9223372036854775807) (k : Int) (hk : -9223372036854775808 ≤ k ∧ k ≤ 9223372036854775807) (A2 : Option Addr) (n2 c2 : Nat) (bl : List UInt8) (hl : Rb w A2 n2 bl) (hc2 : n2 ≤ c2 ∧ c2 ≤ 9223372036854775807) :
    Calls Try.prog 8 #[.slice A n c, .int .i64 k, .slice A2 n2 c2] w fun e w' => e = .returned (.bool true) ∧ Below w.heap.size w w' := by
  have HLB := Lib.hid hl.len8
  have hf := hr.2
  have R := hr
  have RL := hl
  have hB := Below.refl w.heap.size w
  by_cases hbig : n2 ≤ 500 ∧ (1 ≤ k ∧ k ≤ 200)
  rotate_left
  · clear hr hl
    go_enter Try.func8, Try.ntmps8
    go_wp2_with (go_at_call 11; refine (alive8_any _).mono ?_; rintro e w77 ⟨rfl, b⟩; replace hB := hB.trans (b.mono hB.size); clear b)
    all_goals first
      | (go_ret; exact ⟨rfl, hB⟩)
      | (exfalso; omega)
  obtain ⟨K, rfl⟩ : ∃ K : Nat, k = (K : Int) := ⟨k.toNat, by omega⟩
  have d1 : decide ((n2 : Int) > 500) = false := by rw [decide_eq_false_iff_not]; omega
  have d2 : decide ((K : Int) < 1) = false := by rw [decide_eq_false_iff_not]; omega
  have d3 : decide ((K : Int) > 200) = false := by rw [decide_eq_false_iff_not]; omega
  have HCK := Lib.hid (fun W (h : RdN W A n L) => recheck8_any A n c L (K : Int) W h hc)
  have HLN := Lib.hid hr.len
  clear hr hl
  by_cases h : ckT L (K : Int) = 0
  · have hfn := (ck_zero8 h).2
    have HKV := Lib.hid h
    have HEC := Lib.hid (show ecL L (K : Int) = enB L from by rw [ecL, if_pos h])
    have hwl : (enB L).length ≤ 4010 := by
      have h1 := codR_len 0 L
      have h2 := (vry_len L.length).2
      have h3 := (fn_len2 hfn).2
      rw [enB, List.length_append]; omega
    have hdec := (dec_enc (rest := bl) hfn hf ⟨by omega, by omega⟩ (by rw [List.length_append, HLB.out]; omega))
    have HLF := Lib.hid hf
    have hc2' : n ≤ 9223372036854775807 := by omega
    clear h hfn
    go_enter Try.func8, Try.ntmps8
    go_wp2_with fail
    refine (HCK.out _ R).mono ?_
    rintro e w1 ⟨rfl, b⟩
    rw [HKV.out]
    replace R := R.mv b
    replace RL := RL.mv b
    replace hB := hB.trans (b.mono hB.size)
    clear b
    go_wp2_with fail
    have H2 := encode8_any A n c L (K : Int) _ R hc
    rw [HEC.out, HKV.out] at H2
    refine (H2).mono ?_
    rintro e w2 ⟨A3, c3, rfl, o3, b⟩
    have R3 := own_rd o3
    clear o3
    replace R := R.mv b
    replace RL := RL.mv b
    replace hB := hB.trans (b.mono hB.size)
    clear b
    clear H2
    generalize enB L = W at *
    obtain ⟨mw, hmw⟩ : ∃ m, W.length = m := ⟨_, rfl⟩
    have HMW := Lib.hid hmw
    rw [hmw] at R3 hwl ⊢
    have HD1 := Lib.hid (fun A8 c8 => show dcC A8 (mw + n2) c8 (W ++ bl) 0 (K : Int) = cur A8 (mw + n2) c8 (mw : Int) ∧ dcE (W ++ bl) 0 (K : Int) = 0 ∧ dcL (W ++ bl) 0 (K : Int) = L from ⟨by rw [dcC, if_pos hdec.1, hdec.2.2, hmw], hdec.1, hdec.2.1⟩)
    clear hmw hdec
    go_wp2_with (first
      | (at_builtin; refine wpList_app0 rfl (.tmp 40) (.tmp 41) _ rfl sl8 w2.heap.size _ rfl (own_empty w2 (Nat.le_refl _) _ 1) _ A3 mw c3 (W.map b8) rfl (R3.al _) (b8_one _) (by omega) (by simp) ?_; intro A7 c7 w7 o7 b7 h7; have b := Below.trans (show Below w2.heap.size w2 _ from Ext.al w2 (.cells #[] 5)) b7; have R_ := R; have RL_ := RL; have hB_ := hB; have bb7 := b; replace R := R.mv b; replace RL := RL.mv b; replace hB := hB.trans (b.mono hB.size); have hs7 := b.size; clear b b7)
      | (at_builtin; refine wpList_app8 rfl (.tmp 42) (.tmp 43) _ (by rfl) sl8 w2.heap.size (by rfl) o7 (by rfl) RL (mw + n2) rfl (by omega) hs7 ?_; intro A8 c8 w8 o8 b8_; replace R := R_.mv (bb7.trans b8_); replace RL := RL_.mv (bb7.trans b8_); replace hB := hB_.trans ((bb7.trans b8_).mono hB_.size)))
    have R9 := own_rd o8
    have hc9 := own_cap o8
    unfold maxLen at hc9
    have hL9 := R9.len8
    clear o8
    refine (decode8_any A8 (mw + n2) c8 (W ++ bl) 0 (K : Int) _ R9 hc9 (by omega) hk).mono ?_
    rintro e w9 hq
    unfold DcP at hq
    obtain ⟨A4, c4, rfl, o4, b⟩ := hq
    rw [(HD1.out A8 c8).2.2] at o4
    rw [(HD1.out A8 c8).2.2, (HD1.out A8 c8).2.1, (HD1.out A8 c8).1]
    have N4 := own_rdN o4 HLF.out
    have hc4 := own_cap o4
    unfold maxLen at hc4
    clear o4
    replace R := R.mv b
    replace RL := RL.mv b
    replace R9 := R9.mv b
    replace hB := hB.trans (b.mono hB.size)
    clear b
    have b := Ext.al w9 (.cells #[.slice A8 (mw + n2) c8, .int .i64 (mw : Int)] 49)
    have h9 := Blk.new w9 49 #[.slice A8 (mw + n2) c8, .int .i64 (mw : Int)]
    replace R := R.mv b
    replace RL := RL.mv b
    replace R9 := R9.mv b
    replace N4 := N4.mv b
    replace hB := hB.trans (b.mono hB.size)
    clear b
    go_wp2_with fail
    generalize w9.alloc (.cells #[.slice A8 (mw + n2) c8, .int .i64 (mw : Int)] 49) = w10 at *
    generalize w9.heap.size = p9 at *
    refine (same8_any A n c L A4 L.length c4 L _ R N4 (by omega)).mono ?_
    rintro e w11 ⟨rfl, b⟩
    rw [decide_eq_true (rfl : L = L)]
    replace R := R.mv b
    replace RL := RL.mv b
    replace R9 := R9.mv b
    replace N4 := N4.mv b
    replace h9 := h9.below b h9.lt
    replace hB := hB.trans (b.mono hB.size)
    clear b
    have z1 : w11.cell? ⟨p9, 0, none⟩ = some (.slice A8 (mw + n2) c8) := (h9.cell 0).trans rfl
    have z2 : w11.cell? ⟨p9, 1, none⟩ = some (.int .i64 (mw : Int)) := (h9.cell 1).trans rfl
    go_wp2_with fail
    by_cases hE : dcE bl 0 (K : Int) = 0
    rotate_left
    · have HZ := Lib.hid (show dcC A2 n2 c2 bl 0 (K : Int) = cur none 0 0 0 ∧ True from ⟨by rw [dcC, if_neg hE], trivial⟩)
      have d9 : (dcE bl 0 (K : Int) != 0) = true := by rw [bne_iff_ne]; exact hE
      have HFT := Lib.hid (dcL_fit bl 0 (K : Int) (by rw [HLB.out]; omega))
      clear hE
      refine (decode8_any A2 n2 c2 bl 0 (K : Int) _ RL hc2 (by omega) hk).mono ?_
      rintro e w30 hq
      unfold DcP at hq
      obtain ⟨A5, c5, rfl, o5, b⟩ := hq
      rw [HZ.out.1]
      have N5 := own_rdN o5 HFT.out
      have hc5 := own_cap o5
      unfold maxLen at hc5
      clear o5
      replace RL := RL.mv b
      replace hB := hB.trans (b.mono hB.size)
      clear b
      have b := Ext.al w30 (.cells #[.slice none 0 0, .int .i64 0] 49)
      have h12 := Blk.new w30 49 #[.slice none 0 0, .int .i64 0]
      replace RL := RL.mv b
      replace N5 := N5.mv b
      replace hB := hB.trans (b.mono hB.size)
      clear b
      go_wp2_with (go_at_call 11; refine (alive8_any _).mono ?_; rintro e w77 ⟨rfl, b⟩; replace hB := hB.trans (b.mono hB.size); clear b)
      go_ret
      exact ⟨rfl, hB⟩
    · obtain ⟨z, hz⟩ : ∃ z : Nat, (dcW bl 0).2.2 = z := ⟨_, rfl⟩
      have hed := enc_dec hE
      rw [hz] at hed
      have HZ := Lib.hid (show dcC A2 n2 c2 bl 0 (K : Int) = cur A2 n2 c2 (z : Int) ∧ dcE bl 0 (K : Int) = 0 from ⟨by rw [dcC, if_pos hE, hz], hE⟩)
      have HFT := Lib.hid (dcL_fit bl 0 (K : Int) (by rw [HLB.out]; omega))
      have HED := Lib.hid (show ecL (dcL bl 0 (K : Int)) (K : Int) = bl.take z ∧ ckT (dcL bl 0 (K : Int)) (K : Int) = 0 from ⟨hed.2.2.2, hed.1⟩)
      have HZL := Lib.hid (show 1 ≤ z ∧ z ≤ n2 from ⟨hed.2.1, by rw [← HLB.out]; exact hed.2.2.1⟩)
      have HTL := Lib.hid (show (bl.take z).length = z from by rw [List.length_take, HLB.out]; have := HZL.out.2; omega)
      clear hed hE hz
      refine (decode8_any A2 n2 c2 bl 0 (K : Int) _ RL hc2 (by omega) hk).mono ?_
      rintro e w30 hq
      unfold DcP at hq
      obtain ⟨A5, c5, rfl, o5, b⟩ := hq
      rw [HZ.out.1, HZ.out.2]
      have N5 := own_rdN o5 HFT.out
      have hc5 := own_cap o5
      unfold maxLen at hc5
      clear o5
      replace RL := RL.mv b
      replace hB := hB.trans (b.mono hB.size)
      clear b
      have b := Ext.al w30 (.cells #[.slice A2 n2 c2, .int .i64 (z : Int)] 49)
      have h12 := Blk.new w30 49 #[.slice A2 n2 c2, .int .i64 (z : Int)]
      replace RL := RL.mv b
      replace N5 := N5.mv b
      replace hB := hB.trans (b.mono hB.size)
      clear b
      go_wp2_with fail
      generalize w30.alloc (.cells #[.slice A2 n2 c2, .int .i64 (z : Int)] 49) = w31 at *
      generalize w30.heap.size = p12 at *
      have H6 := encode8_any A5 (dcL bl 0 (K : Int)).length c5 (dcL bl 0 (K : Int)) (K : Int) _ N5 hc5
      rw [HED.out.1, HED.out.2, HTL.out] at H6
      refine (H6).mono ?_
      rintro e w32 ⟨A6, c6, rfl, o6, b⟩
      have R6 := own_rd o6
      clear o6
      replace RL := RL.mv b
      replace N5 := N5.mv b
      replace h12 := h12.below b h12.lt
      replace hB := hB.trans (b.mono hB.size)
      clear b
      clear H6
      go_wp2_with fail
      refine ext_start (by kernel_rfl) (by repeat (first | exact calm_body | apply calm_then | apply calm_block)) (fun hQ => ?_)
      have b := (Ext.refl w32).draw
      replace RL := RL.mv b
      replace N5 := N5.mv b
      replace R6 := R6.mv b
      replace h12 := h12.below b h12.lt
      replace hB := hB.trans (b.mono hB.size)
      clear b
      generalize w32.drew = x0 at *
      have X1 : ∀ W, Ext x0 W → W.cell? ⟨p12, 0, none⟩ = some (.slice A2 n2 c2) := fun W h => ((h12.below h h12.lt).cell 0).trans rfl
      have X2 : ∀ W, Ext x0 W → W.cell? ⟨p12, 1, none⟩ = some (.int .i64 (z : Int)) := fun W h => ((h12.below h h12.lt).cell 1).trans rfl
      have X8 : ∀ W, Ext x0 W → CvS A6 z c6 (bl.take z) W := fun W h => cvS c6 (Reads.below R6 h)
      have RT := Reads.first RL HZL.out.2
      rw [Nat.mul_one, ← List.map_take] at RT
      have X9 : ∀ W, Ext x0 W → CvS A2 z c2 (bl.take z) W := fun W h => cvS c2 (Reads.below RT h)
      have i0 : (0 : Int) ≤ (z : Int) := by omega
      have i1 : (z : Int) ≤ (c2 : Int) := by have := HZL.out.2; omega
      have i2 : decide ((z : Int) ≥ 1) = true := by rw [decide_eq_true_eq]; have := HZL.out.1; omega
      have i3 : decide ((z : Int) ≤ (n2 : Int)) = true := by rw [decide_eq_true_eq]; have := HZL.out.2; omega
      have i4 : (1 : Int) ≤ (z : Int) := by have := HZL.out.1; omega
      have i5 : (z : Int) ≤ (n2 : Int) := by have := HZL.out.2; omega
      have i6 : 1 ≤ z := HZL.out.1
      have i7 : z ≤ n2 := HZL.out.2
      have i8 : ¬ z = 0 := by omega
      refine ext_take (i := 0) (oi := ?oib0) (v := ?vb0) ?hib0 (by kernel_rfl) (by kernel_rfl) (by kernel_rfl) hQ ?hwb0 ?hyb0 ?restb0
      case hib0 => simp only [List.getElem?_toArray, List.getElem?_cons_zero]; rfl
      case hwb0 => rfl
      case hyb0 => intro W hW; go_simp; with_reducible rfl
      simp only [Act.put, List.setIfInBounds_toArray, List.set_cons_zero, List.set_cons_succ]
      refine ext_take (i := 1) (oi := ?oib1) (v := ?vb1) ?hib1 (by kernel_rfl) (by kernel_rfl) (by kernel_rfl) hQ ?hwb1 ?hyb1 ?restb1
      case hib1 => simp only [List.getElem?_toArray, List.getElem?_cons_zero, List.getElem?_cons_succ]; rfl
      case hwb1 => rfl
      case hyb1 => intro W hW; go_simp; with_reducible rfl
      simp only [Act.put, List.setIfInBounds_toArray, List.set_cons_zero, List.set_cons_succ]
      refine ext_take (i := 2) (oi := ?oib2) (v := ?vb2) ?hib2 (by kernel_rfl) (by kernel_rfl) (by kernel_rfl) hQ ?hwb2 ?hyb2 ?restb2
      case hib2 => simp only [List.getElem?_toArray, List.getElem?_cons_zero, List.getElem?_cons_succ]; rfl
      case hwb2 => rfl
      case hyb2 => intro W hW; go_simp; with_reducible rfl
      simp only [Act.put, List.setIfInBounds_toArray, List.set_cons_zero, List.set_cons_succ]
      refine ext_take (i := 3) (oi := ?oib3) (v := ?vb3) ?hib3 (by kernel_rfl) (by kernel_rfl) (by kernel_rfl) hQ ?hwb3 ?hyb3 ?restb3
      case hib3 => simp only [List.getElem?_toArray, List.getElem?_cons_zero, List.getElem?_cons_succ]; rfl
      case hwb3 => rfl
      case hyb3 => intro W hW; go_simp; with_reducible rfl
      simp only [Act.put, List.setIfInBounds_toArray, List.set_cons_zero, List.set_cons_succ]
      refine ext_take (i := 4) (oi := ?oib4) (v := ?vb4) ?hib4 (by kernel_rfl) (by kernel_rfl) (by kernel_rfl) hQ ?hwb4 ?hyb4 ?restb4
      case hib4 => simp only [List.getElem?_toArray, List.getElem?_cons_zero, List.getElem?_cons_succ]; rfl
      case hwb4 => rfl
      case hyb4 => intro W hW; go_simp; with_reducible rfl
      simp only [Act.put, List.setIfInBounds_toArray, List.set_cons_zero, List.set_cons_succ]
      refine ext_take (i := 5) (oi := ?oib5) (v := ?vb5) ?hib5 (by kernel_rfl) (by kernel_rfl) (by kernel_rfl) hQ ?hwb5 ?hyb5 ?restb5
      case hib5 => simp only [List.getElem?_toArray, List.getElem?_cons_zero, List.getElem?_cons_succ]; rfl
      case hwb5 => rfl
      case hyb5 => intro W hW; go_simp; with_reducible rfl
      simp only [Act.put, List.setIfInBounds_toArray, List.set_cons_zero, List.set_cons_succ]
      refine ext_take (i := 6) (oi := ?oib6) (v := ?vb6) ?hib6 (by kernel_rfl) (by kernel_rfl) (by kernel_rfl) hQ ?hwb6 ?hyb6 ?restb6
      case hib6 => simp only [List.getElem?_toArray, List.getElem?_cons_zero, List.getElem?_cons_succ]; rfl
      case hwb6 => rfl
      case hyb6 => intro W hW; go_simp; with_reducible rfl
      simp only [Act.put, List.setIfInBounds_toArray, List.set_cons_zero, List.set_cons_succ]
      refine ext_take (i := 7) (oi := ?oib7) (v := ?vb7) ?hib7 (by kernel_rfl) (by kernel_rfl) (by kernel_rfl) hQ ?hwb7 ?hyb7 ?restb7
      case hib7 => simp only [List.getElem?_toArray, List.getElem?_cons_zero, List.getElem?_cons_succ]; rfl
      case hwb7 => rfl
      case hyb7 => intro W hW; go_simp; with_reducible rfl
      simp only [Act.put, List.setIfInBounds_toArray, List.set_cons_zero, List.set_cons_succ]
      refine ext_take (i := 8) (oi := ?oib8) (v := ?vb8) ?hib8 (by kernel_rfl) (by kernel_rfl) (by kernel_rfl) hQ ?hwb8 ?hyb8 ?restb8
      case hib8 => simp only [List.getElem?_toArray, List.getElem?_cons_zero, List.getElem?_cons_succ]; rfl
      case hwb8 => rfl
      case hyb8 => intro W hW; go_simp; with_reducible rfl
      simp only [Act.put, List.setIfInBounds_toArray, List.set_cons_zero, List.set_cons_succ]
      refine ext_take (i := 9) (oi := ?oib9) (v := ?vb9) ?hib9 (by kernel_rfl) (by kernel_rfl) (by kernel_rfl) hQ ?hwb9 ?hyb9 ?restb9
      case hib9 => simp only [List.getElem?_toArray, List.getElem?_cons_zero, List.getElem?_cons_succ]; rfl
      case hwb9 => rfl
      case hyb9 => intro W hW; go_simp; with_reducible rfl
      simp only [Act.put, List.setIfInBounds_toArray, List.set_cons_zero, List.set_cons_succ]
      refine ext_take (i := 10) (oi := ?oib10) (v := ?vb10) ?hib10 (by kernel_rfl) (by kernel_rfl) (by kernel_rfl) hQ ?hwb10 ?hyb10 ?restb10
      case hib10 => simp only [List.getElem?_toArray, List.getElem?_cons_zero, List.getElem?_cons_succ]; rfl
      case hwb10 => rfl
      case hyb10 => intro W hW; go_simp; with_reducible rfl
      simp only [Act.put, List.setIfInBounds_toArray, List.set_cons_zero, List.set_cons_succ]
      refine ext_take (i := 11) (oi := ?oib11) (v := ?vb11) ?hib11 (by kernel_rfl) (by kernel_rfl) (by kernel_rfl) hQ ?hwb11 ?hyb11 ?restb11
      case hib11 => simp only [List.getElem?_toArray, List.getElem?_cons_zero, List.getElem?_cons_succ]; rfl
      case hwb11 => rfl
      case hyb11 => intro W hW; go_simp; with_reducible rfl
      simp only [Act.put, List.setIfInBounds_toArray, List.set_cons_zero, List.set_cons_succ]
      refine ext_take (i := 12) (oi := ?oib12) (v := ?vb12) ?hib12 (by kernel_rfl) (by kernel_rfl) (by kernel_rfl) hQ ?hwb12 ?hyb12 ?restb12
      case hib12 => simp only [List.getElem?_toArray, List.getElem?_cons_zero, List.getElem?_cons_succ]; rfl
      case hwb12 => rfl
      case hyb12 => intro W hW; go_simp; with_reducible rfl
      simp only [Act.put, List.setIfInBounds_toArray, List.set_cons_zero, List.set_cons_succ]
      refine ext_take (i := 13) (oi := ?oib13) (v := ?vb13) ?hib13 (by kernel_rfl) (by kernel_rfl) (by kernel_rfl) hQ ?hwb13 ?hyb13 ?restb13
      case hib13 => simp only [List.getElem?_toArray, List.getElem?_cons_zero, List.getElem?_cons_succ]; rfl
      case hwb13 => rfl
      case hyb13 => intro W hW; go_simp; with_reducible rfl
      simp only [Act.put, List.setIfInBounds_toArray, List.set_cons_zero, List.set_cons_succ]
      refine ext_take (i := 14) (oi := ?oib14) (v := ?vb14) ?hib14 (by kernel_rfl) (by kernel_rfl) (by kernel_rfl) hQ ?hwb14 ?hyb14 ?restb14
      case hib14 => simp only [List.getElem?_toArray, List.getElem?_cons_zero, List.getElem?_cons_succ]; rfl
      case hwb14 => rfl
      case hyb14 => intro W hW; go_simp; with_reducible rfl
      simp only [Act.put, List.setIfInBounds_toArray, List.set_cons_zero, List.set_cons_succ]
      refine ext_take (i := 15) (oi := ?oib15) (v := ?vb15) ?hib15 (by kernel_rfl) (by kernel_rfl) (by kernel_rfl) hQ ?hwb15 ?hyb15 ?restb15
      case hib15 => simp only [List.getElem?_toArray, List.getElem?_cons_zero, List.getElem?_cons_succ]; rfl
      case hwb15 => rfl
      case hyb15 => intro W hW; go_simp; with_reducible rfl
      simp only [Act.put, List.setIfInBounds_toArray, List.set_cons_zero, List.set_cons_succ]
      refine ext_take (i := 16) (oi := ?oib16) (v := ?vb16) ?hib16 (by kernel_rfl) (by kernel_rfl) (by kernel_rfl) hQ ?hwb16 ?hyb16 ?restb16
      case hib16 => simp only [List.getElem?_toArray, List.getElem?_cons_zero, List.getElem?_cons_succ]; rfl
      case hwb16 => rfl
      case hyb16 => intro W hW; go_simp; with_reducible rfl
      simp only [Act.put, List.setIfInBounds_toArray, List.set_cons_zero, List.set_cons_succ]
      refine ext_take (i := 17) (oi := ?oib17) (v := ?vb17) ?hib17 (by kernel_rfl) (by kernel_rfl) (by kernel_rfl) hQ ?hwb17 ?hyb17 ?restb17
      case hib17 => simp only [List.getElem?_toArray, List.getElem?_cons_zero, List.getElem?_cons_succ]; rfl
      case hwb17 => rfl
      case hyb17 => intro W hW; go_simp; with_reducible rfl
      simp only [Act.put, List.setIfInBounds_toArray, List.set_cons_zero, List.set_cons_succ]
      refine ext_take (i := 18) (oi := ?oib18) (v := ?vb18) ?hib18 (by kernel_rfl) (by kernel_rfl) (by kernel_rfl) hQ ?hwb18 ?hyb18 ?restb18
      case hib18 => simp only [List.getElem?_toArray, List.getElem?_cons_zero, List.getElem?_cons_succ]; rfl
      case hwb18 => rfl
      case hyb18 => intro W hW; go_simp; with_reducible rfl
      simp only [Act.put, List.setIfInBounds_toArray, List.set_cons_zero, List.set_cons_succ]
      refine ext_take (i := 19) (oi := ?oib19) (v := ?vb19) ?hib19 (by kernel_rfl) (by kernel_rfl) (by kernel_rfl) hQ ?hwb19 ?hyb19 ?restb19
      case hib19 => simp only [List.getElem?_toArray, List.getElem?_cons_zero, List.getElem?_cons_succ]; rfl
      case hwb19 => rfl
      case hyb19 => intro W hW; go_simp; with_reducible rfl
      simp only [Act.put, List.setIfInBounds_toArray, List.set_cons_zero, List.set_cons_succ]
      refine ext_take (i := 20) (oi := ?oib20) (v := ?vb20) ?hib20 (by kernel_rfl) (by kernel_rfl) (by kernel_rfl) hQ ?hwb20 ?hyb20 ?restb20
      case hib20 => simp only [List.getElem?_toArray, List.getElem?_cons_zero, List.getElem?_cons_succ]; rfl
      case hwb20 => rfl
      case hyb20 => intro W hW; go_simp; with_reducible rfl
      simp only [Act.put, List.setIfInBounds_toArray, List.set_cons_zero, List.set_cons_succ]
      refine ext_take (i := 21) (oi := ?oib21) (v := ?vb21) ?hib21 (by kernel_rfl) (by kernel_rfl) (by kernel_rfl) hQ ?hwb21 ?hyb21 ?restb21
      case hib21 => simp only [List.getElem?_toArray, List.getElem?_cons_zero, List.getElem?_cons_succ]; rfl
      case hwb21 => rfl
      case hyb21 => intro W hW; go_simp; with_reducible rfl
      simp only [Act.put, List.setIfInBounds_toArray, List.set_cons_zero, List.set_cons_succ]
      refine ext_take (i := 22) (oi := ?oib22) (v := ?vb22) ?hib22 (by kernel_rfl) (by kernel_rfl) (by kernel_rfl) hQ ?hwb22 ?hyb22 ?restb22
      case hib22 => simp only [List.getElem?_toArray, List.getElem?_cons_zero, List.getElem?_cons_succ]; rfl
      case hwb22 => rfl
      case hyb22 => intro W hW; go_simp; with_reducible rfl
      simp only [Act.put, List.setIfInBounds_toArray, List.set_cons_zero, List.set_cons_succ]
      refine ext_take (i := 23) (oi := ?oib23) (v := ?vb23) ?hib23 (by kernel_rfl) (by kernel_rfl) (by kernel_rfl) hQ ?hwb23 ?hyb23 ?restb23
      case hib23 => simp only [List.getElem?_toArray, List.getElem?_cons_zero, List.getElem?_cons_succ]; rfl
      case hwb23 => rfl
      case hyb23 => intro W hW; go_simp; with_reducible rfl
      simp only [Act.put, List.setIfInBounds_toArray, List.set_cons_zero, List.set_cons_succ]
      refine ext_take (i := 24) (oi := ?oib24) (v := ?vb24) ?hib24 (by kernel_rfl) (by kernel_rfl) (by kernel_rfl) hQ ?hwb24 ?hyb24 ?restb24
      case hib24 => simp only [List.getElem?_toArray, List.getElem?_cons_zero, List.getElem?_cons_succ]; rfl
      case hwb24 => rfl
      case hyb24 => intro W hW; go_simp; with_reducible rfl
      simp only [Act.put, List.setIfInBounds_toArray, List.set_cons_zero, List.set_cons_succ]
      refine ext_step (i := 25) (oi := ?oib25) (by kernel_rfl) ?hib25 ?hwb25 (fun K hK => ?_)
      case hib25 => simp only [List.getElem?_toArray, List.getElem?_cons_zero, List.getElem?_cons_succ]; rfl
      case hwb25 => rfl
      go_simp
      refine (alive8_any _).mono ?_; rintro e x1 ⟨rfl, b⟩; replace RL := RL.mv b; replace N5 := N5.mv b; replace R6 := R6.mv b; replace h12 := h12.below b h12.lt; replace hB := hB.trans (b.mono hB.size); refine hK _ _ b ?_
      try simp only [Act.put, List.setIfInBounds_toArray, List.set_cons_zero, List.set_cons_succ]
      refine ext_take (i := 26) (oi := ?oib26) (v := ?vb26) ?hib26 (by kernel_rfl) (by kernel_rfl) (by kernel_rfl) hQ ?hwb26 ?hyb26 ?restb26
      case hib26 => simp only [List.getElem?_toArray, List.getElem?_cons_zero, List.getElem?_cons_succ]; rfl
      case hwb26 => rfl
      case hyb26 => intro W hW; go_simp; with_reducible rfl
      simp only [Act.put, List.setIfInBounds_toArray, List.set_cons_zero, List.set_cons_succ]
      refine ext_take (i := 27) (oi := ?oib27) (v := ?vb27) ?hib27 (by kernel_rfl) (by kernel_rfl) (by kernel_rfl) hQ ?hwb27 ?hyb27 ?restb27
      case hib27 => simp only [List.getElem?_toArray, List.getElem?_cons_zero, List.getElem?_cons_succ]; rfl
      case hwb27 => rfl
      case hyb27 => intro W hW; go_simp; with_reducible rfl
      simp only [Act.put, List.setIfInBounds_toArray, List.set_cons_zero, List.set_cons_succ]
      refine wpAnyH_done (by kernel_rfl) ?_ _
      clear X1 X2
      go_wp2_with fail
      go_ret
      exact ⟨rfl, hB⟩
  · have d4 : (ckT L (K : Int) == 0) = false := by rw [beq_eq_false_iff_ne]; exact h
    generalize ckT L (K : Int) = xc at *
    clear h
    go_enter Try.func8, Try.ntmps8
    go_wp2_with fail
    refine (HCK.out _ R).mono ?_
    rintro e w1 ⟨rfl, b⟩
    replace R := R.mv b
    replace RL := RL.mv b
    replace hB := hB.trans (b.mono hB.size)
    clear b
    by_cases hE : dcE bl 0 (K : Int) = 0
    rotate_left
    · have HZ := Lib.hid (show dcC A2 n2 c2 bl 0 (K : Int) = cur none 0 0 0 ∧ True from ⟨by rw [dcC, if_neg hE], trivial⟩)
      have d9 : (dcE bl 0 (K : Int) != 0) = true := by rw [bne_iff_ne]; exact hE
      have HFT := Lib.hid (dcL_fit bl 0 (K : Int) (by rw [HLB.out]; omega))
      clear hE
      go_wp2_with fail
      refine (decode8_any A2 n2 c2 bl 0 (K : Int) _ RL hc2 (by omega) hk).mono ?_
      rintro e w30 hq
      unfold DcP at hq
      obtain ⟨A5, c5, rfl, o5, b⟩ := hq
      rw [HZ.out.1]
      have N5 := own_rdN o5 HFT.out
      have hc5 := own_cap o5
      unfold maxLen at hc5
      clear o5
      replace RL := RL.mv b
      replace hB := hB.trans (b.mono hB.size)
      clear b
      have b := Ext.al w30 (.cells #[.slice none 0 0, .int .i64 0] 49)
      have h12 := Blk.new w30 49 #[.slice none 0 0, .int .i64 0]
      replace RL := RL.mv b
      replace N5 := N5.mv b
      replace hB := hB.trans (b.mono hB.size)
      clear b
      go_wp2_with (go_at_call 11; refine (alive8_any _).mono ?_; rintro e w77 ⟨rfl, b⟩; replace hB := hB.trans (b.mono hB.size); clear b)
      go_ret
      exact ⟨rfl, hB⟩
    · obtain ⟨z, hz⟩ : ∃ z : Nat, (dcW bl 0).2.2 = z := ⟨_, rfl⟩
      have hed := enc_dec hE
      rw [hz] at hed
      have HZ := Lib.hid (show dcC A2 n2 c2 bl 0 (K : Int) = cur A2 n2 c2 (z : Int) ∧ dcE bl 0 (K : Int) = 0 from ⟨by rw [dcC, if_pos hE, hz], hE⟩)
      have HFT := Lib.hid (dcL_fit bl 0 (K : Int) (by rw [HLB.out]; omega))
      have HED := Lib.hid (show ecL (dcL bl 0 (K : Int)) (K : Int) = bl.take z ∧ ckT (dcL bl 0 (K : Int)) (K : Int) = 0 from ⟨hed.2.2.2, hed.1⟩)
      have HZL := Lib.hid (show 1 ≤ z ∧ z ≤ n2 from ⟨hed.2.1, by rw [← HLB.out]; exact hed.2.2.1⟩)
      have HTL := Lib.hid (show (bl.take z).length = z from by rw [List.length_take, HLB.out]; have := HZL.out.2; omega)
      clear hed hE hz
      go_wp2_with fail
      refine (decode8_any A2 n2 c2 bl 0 (K : Int) _ RL hc2 (by omega) hk).mono ?_
      rintro e w30 hq
      unfold DcP at hq
      obtain ⟨A5, c5, rfl, o5, b⟩ := hq
      rw [HZ.out.1, HZ.out.2]
      have N5 := own_rdN o5 HFT.out
      have hc5 := own_cap o5
      unfold maxLen at hc5
      clear o5
      replace RL := RL.mv b
      replace hB := hB.trans (b.mono hB.size)
      clear b
      have b := Ext.al w30 (.cells #[.slice A2 n2 c2, .int .i64 (z : Int)] 49)
      have h12 := Blk.new w30 49 #[.slice A2 n2 c2, .int .i64 (z : Int)]
      replace RL := RL.mv b
      replace N5 := N5.mv b
      replace hB := hB.trans (b.mono hB.size)
      clear b
      go_wp2_with fail
      generalize w30.alloc (.cells #[.slice A2 n2 c2, .int .i64 (z : Int)] 49) = w31 at *
      generalize w30.heap.size = p12 at *
      have H6 := encode8_any A5 (dcL bl 0 (K : Int)).length c5 (dcL bl 0 (K : Int)) (K : Int) _ N5 hc5
      rw [HED.out.1, HED.out.2, HTL.out] at H6
      refine (H6).mono ?_
      rintro e w32 ⟨A6, c6, rfl, o6, b⟩
      have R6 := own_rd o6
      clear o6
      replace RL := RL.mv b
      replace N5 := N5.mv b
      replace h12 := h12.below b h12.lt
      replace hB := hB.trans (b.mono hB.size)
      clear b
      clear H6
      go_wp2_with fail
      refine ext_start (by kernel_rfl) (by repeat (first | exact calm_body | apply calm_then | apply calm_block)) (fun hQ => ?_)
      have b := (Ext.refl w32).draw
      replace RL := RL.mv b
      replace N5 := N5.mv b
      replace R6 := R6.mv b
      replace h12 := h12.below b h12.lt
      replace hB := hB.trans (b.mono hB.size)
      clear b
      generalize w32.drew = x0 at *
      have X1 : ∀ W, Ext x0 W → W.cell? ⟨p12, 0, none⟩ = some (.slice A2 n2 c2) := fun W h => ((h12.below h h12.lt).cell 0).trans rfl
      have X2 : ∀ W, Ext x0 W → W.cell? ⟨p12, 1, none⟩ = some (.int .i64 (z : Int)) := fun W h => ((h12.below h h12.lt).cell 1).trans rfl
      have X8 : ∀ W, Ext x0 W → CvS A6 z c6 (bl.take z) W := fun W h => cvS c6 (Reads.below R6 h)
      have RT := Reads.first RL HZL.out.2
      rw [Nat.mul_one, ← List.map_take] at RT
      have X9 : ∀ W, Ext x0 W → CvS A2 z c2 (bl.take z) W := fun W h => cvS c2 (Reads.below RT h)
      have i0 : (0 : Int) ≤ (z : Int) := by omega
      have i1 : (z : Int) ≤ (c2 : Int) := by have := HZL.out.2; omega
      have i2 : decide ((z : Int) ≥ 1) = true := by rw [decide_eq_true_eq]; have := HZL.out.1; omega
      have i3 : decide ((z : Int) ≤ (n2 : Int)) = true := by rw [decide_eq_true_eq]; have := HZL.out.2; omega
      have i4 : (1 : Int) ≤ (z : Int) := by have := HZL.out.1; omega
      have i5 : (z : Int) ≤ (n2 : Int) := by have := HZL.out.2; omega
      have i6 : 1 ≤ z := HZL.out.1
      have i7 : z ≤ n2 := HZL.out.2
      have i8 : ¬ z = 0 := by omega
      refine ext_take (i := 0) (oi := ?oia0) (v := ?va0) ?hia0 (by kernel_rfl) (by kernel_rfl) (by kernel_rfl) hQ ?hwa0 ?hya0 ?resta0
      case hia0 => simp only [List.getElem?_toArray, List.getElem?_cons_zero]; rfl
      case hwa0 => rfl
      case hya0 => intro W hW; go_simp; with_reducible rfl
      simp only [Act.put, List.setIfInBounds_toArray, List.set_cons_zero, List.set_cons_succ]
      refine ext_take (i := 1) (oi := ?oia1) (v := ?va1) ?hia1 (by kernel_rfl) (by kernel_rfl) (by kernel_rfl) hQ ?hwa1 ?hya1 ?resta1
      case hia1 => simp only [List.getElem?_toArray, List.getElem?_cons_zero, List.getElem?_cons_succ]; rfl
      case hwa1 => rfl
      case hya1 => intro W hW; go_simp; with_reducible rfl
      simp only [Act.put, List.setIfInBounds_toArray, List.set_cons_zero, List.set_cons_succ]
      refine ext_take (i := 2) (oi := ?oia2) (v := ?va2) ?hia2 (by kernel_rfl) (by kernel_rfl) (by kernel_rfl) hQ ?hwa2 ?hya2 ?resta2
      case hia2 => simp only [List.getElem?_toArray, List.getElem?_cons_zero, List.getElem?_cons_succ]; rfl
      case hwa2 => rfl
      case hya2 => intro W hW; go_simp; with_reducible rfl
      simp only [Act.put, List.setIfInBounds_toArray, List.set_cons_zero, List.set_cons_succ]
      refine ext_take (i := 3) (oi := ?oia3) (v := ?va3) ?hia3 (by kernel_rfl) (by kernel_rfl) (by kernel_rfl) hQ ?hwa3 ?hya3 ?resta3
      case hia3 => simp only [List.getElem?_toArray, List.getElem?_cons_zero, List.getElem?_cons_succ]; rfl
      case hwa3 => rfl
      case hya3 => intro W hW; go_simp; with_reducible rfl
      simp only [Act.put, List.setIfInBounds_toArray, List.set_cons_zero, List.set_cons_succ]
      refine ext_take (i := 4) (oi := ?oia4) (v := ?va4) ?hia4 (by kernel_rfl) (by kernel_rfl) (by kernel_rfl) hQ ?hwa4 ?hya4 ?resta4
      case hia4 => simp only [List.getElem?_toArray, List.getElem?_cons_zero, List.getElem?_cons_succ]; rfl
      case hwa4 => rfl
      case hya4 => intro W hW; go_simp; with_reducible rfl
      simp only [Act.put, List.setIfInBounds_toArray, List.set_cons_zero, List.set_cons_succ]
      refine ext_take (i := 5) (oi := ?oia5) (v := ?va5) ?hia5 (by kernel_rfl) (by kernel_rfl) (by kernel_rfl) hQ ?hwa5 ?hya5 ?resta5
      case hia5 => simp only [List.getElem?_toArray, List.getElem?_cons_zero, List.getElem?_cons_succ]; rfl
      case hwa5 => rfl
      case hya5 => intro W hW; go_simp; with_reducible rfl
      simp only [Act.put, List.setIfInBounds_toArray, List.set_cons_zero, List.set_cons_succ]
      refine ext_take (i := 6) (oi := ?oia6) (v := ?va6) ?hia6 (by kernel_rfl) (by kernel_rfl) (by kernel_rfl) hQ ?hwa6 ?hya6 ?resta6
      case hia6 => simp only [List.getElem?_toArray, List.getElem?_cons_zero, List.getElem?_cons_succ]; rfl
      case hwa6 => rfl
      case hya6 => intro W hW; go_simp; with_reducible rfl
      simp only [Act.put, List.setIfInBounds_toArray, List.set_cons_zero, List.set_cons_succ]
      refine ext_take (i := 7) (oi := ?oia7) (v := ?va7) ?hia7 (by kernel_rfl) (by kernel_rfl) (by kernel_rfl) hQ ?hwa7 ?hya7 ?resta7
      case hia7 => simp only [List.getElem?_toArray, List.getElem?_cons_zero, List.getElem?_cons_succ]; rfl
      case hwa7 => rfl
      case hya7 => intro W hW; go_simp; with_reducible rfl
      simp only [Act.put, List.setIfInBounds_toArray, List.set_cons_zero, List.set_cons_succ]
      refine ext_take (i := 8) (oi := ?oia8) (v := ?va8) ?hia8 (by kernel_rfl) (by kernel_rfl) (by kernel_rfl) hQ ?hwa8 ?hya8 ?resta8
      case hia8 => simp only [List.getElem?_toArray, List.getElem?_cons_zero, List.getElem?_cons_succ]; rfl
      case hwa8 => rfl
      case hya8 => intro W hW; go_simp; with_reducible rfl
      simp only [Act.put, List.setIfInBounds_toArray, List.set_cons_zero, List.set_cons_succ]
      refine ext_take (i := 9) (oi := ?oia9) (v := ?va9) ?hia9 (by kernel_rfl) (by kernel_rfl) (by kernel_rfl) hQ ?hwa9 ?hya9 ?resta9
      case hia9 => simp only [List.getElem?_toArray, List.getElem?_cons_zero, List.getElem?_cons_succ]; rfl
      case hwa9 => rfl
      case hya9 => intro W hW; go_simp; with_reducible rfl
      simp only [Act.put, List.setIfInBounds_toArray, List.set_cons_zero, List.set_cons_succ]
      refine ext_take (i := 10) (oi := ?oia10) (v := ?va10) ?hia10 (by kernel_rfl) (by kernel_rfl) (by kernel_rfl) hQ ?hwa10 ?hya10 ?resta10
      case hia10 => simp only [List.getElem?_toArray, List.getElem?_cons_zero, List.getElem?_cons_succ]; rfl
      case hwa10 => rfl
      case hya10 => intro W hW; go_simp; with_reducible rfl
      simp only [Act.put, List.setIfInBounds_toArray, List.set_cons_zero, List.set_cons_succ]
      refine ext_take (i := 11) (oi := ?oia11) (v := ?va11) ?hia11 (by kernel_rfl) (by kernel_rfl) (by kernel_rfl) hQ ?hwa11 ?hya11 ?resta11
      case hia11 => simp only [List.getElem?_toArray, List.getElem?_cons_zero, List.getElem?_cons_succ]; rfl
      case hwa11 => rfl
      case hya11 => intro W hW; go_simp; with_reducible rfl
      simp only [Act.put, List.setIfInBounds_toArray, List.set_cons_zero, List.set_cons_succ]
      refine ext_take (i := 12) (oi := ?oia12) (v := ?va12) ?hia12 (by kernel_rfl) (by kernel_rfl) (by kernel_rfl) hQ ?hwa12 ?hya12 ?resta12
      case hia12 => simp only [List.getElem?_toArray, List.getElem?_cons_zero, List.getElem?_cons_succ]; rfl
      case hwa12 => rfl
      case hya12 => intro W hW; go_simp; with_reducible rfl
      simp only [Act.put, List.setIfInBounds_toArray, List.set_cons_zero, List.set_cons_succ]
      refine ext_take (i := 13) (oi := ?oia13) (v := ?va13) ?hia13 (by kernel_rfl) (by kernel_rfl) (by kernel_rfl) hQ ?hwa13 ?hya13 ?resta13
      case hia13 => simp only [List.getElem?_toArray, List.getElem?_cons_zero, List.getElem?_cons_succ]; rfl
      case hwa13 => rfl
      case hya13 => intro W hW; go_simp; with_reducible rfl
      simp only [Act.put, List.setIfInBounds_toArray, List.set_cons_zero, List.set_cons_succ]
      refine ext_take (i := 14) (oi := ?oia14) (v := ?va14) ?hia14 (by kernel_rfl) (by kernel_rfl) (by kernel_rfl) hQ ?hwa14 ?hya14 ?resta14
      case hia14 => simp only [List.getElem?_toArray, List.getElem?_cons_zero, List.getElem?_cons_succ]; rfl
      case hwa14 => rfl
      case hya14 => intro W hW; go_simp; with_reducible rfl
      simp only [Act.put, List.setIfInBounds_toArray, List.set_cons_zero, List.set_cons_succ]
      refine ext_take (i := 15) (oi := ?oia15) (v := ?va15) ?hia15 (by kernel_rfl) (by kernel_rfl) (by kernel_rfl) hQ ?hwa15 ?hya15 ?resta15
      case hia15 => simp only [List.getElem?_toArray, List.getElem?_cons_zero, List.getElem?_cons_succ]; rfl
      case hwa15 => rfl
      case hya15 => intro W hW; go_simp; with_reducible rfl
      simp only [Act.put, List.setIfInBounds_toArray, List.set_cons_zero, List.set_cons_succ]
      refine ext_take (i := 16) (oi := ?oia16) (v := ?va16) ?hia16 (by kernel_rfl) (by kernel_rfl) (by kernel_rfl) hQ ?hwa16 ?hya16 ?resta16
      case hia16 => simp only [List.getElem?_toArray, List.getElem?_cons_zero, List.getElem?_cons_succ]; rfl
      case hwa16 => rfl
      case hya16 => intro W hW; go_simp; with_reducible rfl
      simp only [Act.put, List.setIfInBounds_toArray, List.set_cons_zero, List.set_cons_succ]
      refine ext_take (i := 17) (oi := ?oia17) (v := ?va17) ?hia17 (by kernel_rfl) (by kernel_rfl) (by kernel_rfl) hQ ?hwa17 ?hya17 ?resta17
      case hia17 => simp only [List.getElem?_toArray, List.getElem?_cons_zero, List.getElem?_cons_succ]; rfl
      case hwa17 => rfl
      case hya17 => intro W hW; go_simp; with_reducible rfl
      simp only [Act.put, List.setIfInBounds_toArray, List.set_cons_zero, List.set_cons_succ]
      refine ext_take (i := 18) (oi := ?oia18) (v := ?va18) ?hia18 (by kernel_rfl) (by kernel_rfl) (by kernel_rfl) hQ ?hwa18 ?hya18 ?resta18
      case hia18 => simp only [List.getElem?_toArray, List.getElem?_cons_zero, List.getElem?_cons_succ]; rfl
      case hwa18 => rfl
      case hya18 => intro W hW; go_simp; with_reducible rfl
      simp only [Act.put, List.setIfInBounds_toArray, List.set_cons_zero, List.set_cons_succ]
      refine ext_take (i := 19) (oi := ?oia19) (v := ?va19) ?hia19 (by kernel_rfl) (by kernel_rfl) (by kernel_rfl) hQ ?hwa19 ?hya19 ?resta19
      case hia19 => simp only [List.getElem?_toArray, List.getElem?_cons_zero, List.getElem?_cons_succ]; rfl
      case hwa19 => rfl
      case hya19 => intro W hW; go_simp; with_reducible rfl
      simp only [Act.put, List.setIfInBounds_toArray, List.set_cons_zero, List.set_cons_succ]
      refine ext_take (i := 20) (oi := ?oia20) (v := ?va20) ?hia20 (by kernel_rfl) (by kernel_rfl) (by kernel_rfl) hQ ?hwa20 ?hya20 ?resta20
      case hia20 => simp only [List.getElem?_toArray, List.getElem?_cons_zero, List.getElem?_cons_succ]; rfl
      case hwa20 => rfl
      case hya20 => intro W hW; go_simp; with_reducible rfl
      simp only [Act.put, List.setIfInBounds_toArray, List.set_cons_zero, List.set_cons_succ]
      refine ext_take (i := 21) (oi := ?oia21) (v := ?va21) ?hia21 (by kernel_rfl) (by kernel_rfl) (by kernel_rfl) hQ ?hwa21 ?hya21 ?resta21
      case hia21 => simp only [List.getElem?_toArray, List.getElem?_cons_zero, List.getElem?_cons_succ]; rfl
      case hwa21 => rfl
      case hya21 => intro W hW; go_simp; with_reducible rfl
      simp only [Act.put, List.setIfInBounds_toArray, List.set_cons_zero, List.set_cons_succ]
      refine ext_take (i := 22) (oi := ?oia22) (v := ?va22) ?hia22 (by kernel_rfl) (by kernel_rfl) (by kernel_rfl) hQ ?hwa22 ?hya22 ?resta22
      case hia22 => simp only [List.getElem?_toArray, List.getElem?_cons_zero, List.getElem?_cons_succ]; rfl
      case hwa22 => rfl
      case hya22 => intro W hW; go_simp; with_reducible rfl
      simp only [Act.put, List.setIfInBounds_toArray, List.set_cons_zero, List.set_cons_succ]
      refine ext_take (i := 23) (oi := ?oia23) (v := ?va23) ?hia23 (by kernel_rfl) (by kernel_rfl) (by kernel_rfl) hQ ?hwa23 ?hya23 ?resta23
      case hia23 => simp only [List.getElem?_toArray, List.getElem?_cons_zero, List.getElem?_cons_succ]; rfl
      case hwa23 => rfl
      case hya23 => intro W hW; go_simp; with_reducible rfl
      simp only [Act.put, List.setIfInBounds_toArray, List.set_cons_zero, List.set_cons_succ]
      refine ext_take (i := 24) (oi := ?oia24) (v := ?va24) ?hia24 (by kernel_rfl) (by kernel_rfl) (by kernel_rfl) hQ ?hwa24 ?hya24 ?resta24
      case hia24 => simp only [List.getElem?_toArray, List.getElem?_cons_zero, List.getElem?_cons_succ]; rfl
      case hwa24 => rfl
      case hya24 => intro W hW; go_simp; with_reducible rfl
      simp only [Act.put, List.setIfInBounds_toArray, List.set_cons_zero, List.set_cons_succ]
      refine ext_step (i := 25) (oi := ?oia25) (by kernel_rfl) ?hia25 ?hwa25 (fun K hK => ?_)
      case hia25 => simp only [List.getElem?_toArray, List.getElem?_cons_zero, List.getElem?_cons_succ]; rfl
      case hwa25 => rfl
      go_simp
      refine (alive8_any _).mono ?_; rintro e x1 ⟨rfl, b⟩; replace RL := RL.mv b; replace N5 := N5.mv b; replace R6 := R6.mv b; replace h12 := h12.below b h12.lt; replace hB := hB.trans (b.mono hB.size); refine hK _ _ b ?_
      try simp only [Act.put, List.setIfInBounds_toArray, List.set_cons_zero, List.set_cons_succ]
      refine ext_take (i := 26) (oi := ?oia26) (v := ?va26) ?hia26 (by kernel_rfl) (by kernel_rfl) (by kernel_rfl) hQ ?hwa26 ?hya26 ?resta26
      case hia26 => simp only [List.getElem?_toArray, List.getElem?_cons_zero, List.getElem?_cons_succ]; rfl
      case hwa26 => rfl
      case hya26 => intro W hW; go_simp; with_reducible rfl
      simp only [Act.put, List.setIfInBounds_toArray, List.set_cons_zero, List.set_cons_succ]
      refine ext_take (i := 27) (oi := ?oia27) (v := ?va27) ?hia27 (by kernel_rfl) (by kernel_rfl) (by kernel_rfl) hQ ?hwa27 ?hya27 ?resta27
      case hia27 => simp only [List.getElem?_toArray, List.getElem?_cons_zero, List.getElem?_cons_succ]; rfl
      case hwa27 => rfl
      case hya27 => intro W hW; go_simp; with_reducible rfl
      simp only [Act.put, List.setIfInBounds_toArray, List.set_cons_zero, List.set_cons_succ]
      refine wpAnyH_done (by kernel_rfl) ?_ _
      clear X1 X2
      go_wp2_with fail
      go_ret
      exact ⟨rfl, hB⟩

end Go.Proofs.Ytibkimmagiijnaa
