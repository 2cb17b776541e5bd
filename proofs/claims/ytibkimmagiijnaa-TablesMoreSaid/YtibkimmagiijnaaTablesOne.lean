/- The walk of TablesOne. -/
import Derived.Test.YtibkimmagiijnaaTab8
import Derived.Test.YtibkimmagiijnaaTab5
namespace Go.Proofs.Ytibkimmagiijnaa
open Go.RowKit Wire
set_option linter.unusedVariables false
theorem lst_lt {L : List (Int × Nat)} (hf : ∀ p ∈ L, fitR p) (m : Nat) : ∀ x ∈ lstF L m, x < 18446744073709551616 := by
  unfold lstF
  intro x hx
  obtain ⟨i, _, rfl⟩ := List.mem_map.1 hx
  exact valA_lt hf
theorem md_len_same {v : List Nat} {j p z : Nat} (hz : v[j]? = some z) (e : z = p) : (mdR j p (v.drop j)).length = (mdR (j + 1) z (v.drop (j + 1))).length := by
  rw [drop_get hz, mdR, if_pos e]
theorem md_len_diff {v : List Nat} {j p z : Nat} (hz : v[j]? = some z) (e : ¬ z = p) : (mdR j p (v.drop j)).length = (mdR (j + 1) z (v.drop (j + 1))).length + 1 := by
  rw [drop_get hz, mdR, if_neg e, List.length_cons]

set_option maxRecDepth 100000 in
set_option maxHeartbeats 8000000 in
theorem tablesOne_walk (w : World) (A : Option Addr) (n c : Nat) (L : List (Int × Nat)) (hr : RdN w A n L) (hc : n ≤ c ∧ c ≤ 9223372036854775807) (k : Int) (hk : (-9223372036854775808 ≤ k ∧ k ≤ 9223372036854775807)) :
    Calls Try.prog 3 #[.slice A n c, .int .i64 k] w fun e w' => e = .returned (.bool true) ∧ Below w.heap.size w w' := by
  have HL := Lib.hid hr.len
  have hc2 : n ≤ 9223372036854775807 := by omega
  have HF := Lib.hid hr.2
  have R := hr
  have hB := Below.refl w.heap.size w
  by_cases h : ckT L k = 0
  rotate_left
  · have d1 : (ckT L k != 0) = true := by rw [bne_iff_ne]; exact h
    have HK := Lib.hid (recheck8_any A n c L k w R hc)
    generalize ckT L k = x at *
    clear h
    go_enter Try.func3, Try.ntmps3
    go_wp2_with fail
    refine HK.out.mono ?_
    rintro e w1 ⟨rfl, b⟩
    replace hB := hB.trans b
    clear b
    go_wp2_with (go_at_call 11; refine (alive8_any _).mono ?_; rintro e w77 ⟨rfl, b⟩; replace hB := hB.trans (b.mono hB.size); clear b)
    go_ret
    exact ⟨rfl, hB⟩

  have hfn := (ck_zero8 h).2
  have hk2 := (ck_zero8 h).1
  obtain ⟨m, rfl⟩ : ∃ m : Nat, k = (m : Int) := ⟨k.toNat, by omega⟩
  have HLS := Lib.hid (show lsL L (m : Int) = lstF L m from by rw [lsL, if_pos h]; rfl)
  have HCK := Lib.hid h
  have HMD := Lib.hid (made_lst hfn (by omega))
  have HML := Lib.hid (show mkE (lstF L m) = 0 ∧ mkL (lstF L m) = L from by
    have e1 : mkE (lstF L m) = 0 := by rw [mkE, lstF_len, cnE, if_pos hk2]
    exact ⟨e1, by rw [mkL, if_pos e1, HMD.out]⟩)
  obtain ⟨v0, r0, hL0⟩ := fn_first hfn
  have HV0 := Lib.hid (show ∃ z, (lstF L m)[0]? = some z ∧ made (lstF L m) = (0, z) :: mdR 1 z ((lstF L m).drop 1) from by
    refine ⟨valA L 0, lst_get (L := L) (by omega), ?_⟩
    have h2 := drop_get (lst_get (L := L) (i := 0) (m := m) (by omega))
    rw [List.drop_zero] at h2
    conv => lhs; rw [h2]
    rfl)
  have HLL := Lib.hid (show L.length = n from hr.len)
  have HLT := Lib.hid (lst_lt HF.out m)
  have HLN := Lib.hid (lstF_len L m)
  clear h hL0 hfn hr
  go_enter Try.func3, Try.ntmps3
  go_wp2_with fail
  refine (recheck8_any A n c L (m : Int) _ R hc).mono ?_
  rintro e w1 ⟨rfl, b⟩
  rw [HCK.out]
  replace R := R.mv b
  replace hB := hB.trans (b.mono hB.size)
  clear b
  go_wp2_with fail
  have H2 := list_any A n c L (m : Int) _ R hc
  rw [HLS.out, HCK.out, HLN.out] at H2
  refine (H2).mono ?_
  rintro e w2 ⟨A4, c4, rfl, o4, b⟩
  have R4 := own_rdU o4 HLT.out
  have hc4 := own_cap o4
  clear o4
  replace R := R.mv b
  replace hB := hB.trans (b.mono hB.size)
  clear b
  clear H2
  go_wp2_with fail
  have H3 := make_any A4 m c4 (lstF L m) _ R4 (by unfold maxLen at hc4; omega)
  rw [HML.out.1, HML.out.2] at H3
  refine (H3).mono ?_
  rintro e w3 ⟨A5, c5, rfl, o5, b⟩
  have R5 := own_rdN o5 HF.out
  clear o5
  replace R := R.mv b
  replace R4 := R4.mv b
  replace hB := hB.trans (b.mono hB.size)
  clear b
  clear H3
  go_wp2_with fail
  go_loopw [9, 10] (fun q i wr => ∃ (j cc z : Nat), 1 ≤ j ∧ j ≤ m ∧ i = .int .i64 (j : Int) ∧ q = .int .i64 (cc : Int) ∧ cc ≤ j ∧ (lstF L m)[j - 1]? = some z ∧ cc + 1 + (mdR j z ((lstF L m).drop j)).length = n ∧ RdU wr A4 m (lstF L m) ∧ RdN wr A n L ∧ RdN wr A5 L.length L ∧ Below w.heap.size w wr) (fun _ i _ => m - (intOf i).toNat)
  case atStart =>
    obtain ⟨z, hz, hm⟩ := HV0.out
    refine ⟨1, 0, z, by omega, by omega, rfl, rfl, by omega, hz, ?_, R4, R, R5, hB⟩
    have h1 := HMD.out
    rw [hm] at h1
    have h2 := congrArg List.length h1
    rw [HLL.out, List.length_cons] at h2
    omega
  case round =>
    obtain ⟨j, cc, z, hj1, hj, rfl, rfl, hcj, hz, hcc, R4, R, R5, hB⟩ := hrel
    have HCC := Lib.hid hcc
    have HZ := Lib.hid hz
    clear hz hcc
    by_cases hlt : j < m
    · obtain ⟨j, rfl⟩ : ∃ i, j = i + 1 := ⟨j - 1, by omega⟩
      obtain ⟨ad, y, hA, _, hy, c0, _⟩ := R4.at_ hlt
      obtain ⟨ad2, z2, hA2, _, hz2, d0, _⟩ := R4.at_ (k := j) (by omega)
      rw [hA] at hA2
      injection hA2 with hA2
      subst hA2 hA
      have hz3 := HZ.out
      rw [Nat.add_sub_cancel, hz2] at hz3
      injection hz3 with hz3
      subst hz3
      rw [show ad.add (j + 1) = { block := ad.block, off := ad.off + (j + 1) } from by simp [Addr.add]] at c0
      have HY := Lib.hid hy
      clear hz2 hy
      have i0 : (0 : Int) ≤ (j : Int) + 1 := by omega
      have i1 : (j : Int) + 1 < (m : Int) := by omega
      have i2 : (j : Int) < (m : Int) := by omega
      have i3 : (0 : Int) ≤ (j : Int) := by omega
      by_cases hne : y = z2
      · have HN := Lib.hid (md_len_same HY.out hne)
        subst hne
        go_wp2_with fail
        go_quiet (fail)
        go_wp2_with fail
        have b := below_drewN (Below.refl wr.heap.size wr) nq
        go_roundw
        case rel => exact ⟨j + 1 + 1, cc, y, by omega, by omega, by go_num, rfl, by omega, HY.out, by rw [← HN.out]; exact HCC.out, R4.mv b, R.mv b, R5.mv b, below_drewN hB nq⟩
        case measure => simp [intOf]; omega
      · have HN := Lib.hid (md_len_diff HY.out hne)
        have dz : ((y : Int) != (z2 : Int)) = true := by rw [bne_iff_ne]; omega
        clear hne
        go_wp2_with fail
        go_quiet (fail)
        go_wp2_with fail
        have b := below_drewN (Below.refl wr.heap.size wr) nq
        go_roundw
        case rel => exact ⟨j + 1 + 1, cc + 1, y, by omega, by omega, by go_num, by go_num, by omega, HY.out, by have h1 := HN.out; have h2 := HCC.out; omega, R4.mv b, R.mv b, R5.mv b, below_drewN hB nq⟩
        case measure => simp [intOf]; omega
    · have hcn : n = cc + 1 := by
        have h1 := HCC.out
        rw [List.drop_of_length_le (by rw [lstF_len]; omega)] at h1
        simp [mdR] at h1
        omega
      have dq : ((n : Int) == (cc : Int) + 1) = true := by rw [beq_iff_eq]; omega
      clear hcn
      go_wp2_with fail
      refine (same8_any A n c L A5 L.length c5 L _ R R5 hc2).mono ?_
      rintro e w6 ⟨rfl, b⟩
      rw [decide_eq_true (rfl : L = L)]
      replace hB := hB.trans (b.mono hB.size)
      clear b
      go_wp2_with (go_at_call 11; refine (alive8_any _).mono ?_; rintro e w77 ⟨rfl, b⟩; replace hB := hB.trans (b.mono hB.size); clear b)
      go_ret
      exact ⟨rfl, hB⟩

end Go.Proofs.Ytibkimmagiijnaa
