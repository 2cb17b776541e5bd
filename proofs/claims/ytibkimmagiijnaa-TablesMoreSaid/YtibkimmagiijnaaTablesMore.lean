/- The walk of TablesMore. -/
import Derived.Test.YtibkimmagiijnaaTablesOne
namespace Go.Proofs.Ytibkimmagiijnaa
open Go.RowKit Wire
set_option linter.unusedVariables false

set_option maxRecDepth 100000 in
set_option maxHeartbeats 8000000 in
theorem tablesMore_walk (w : World) (A : Option Addr) (n c : Nat) (L : List (Int × Nat)) (hr : RdN w A n L) (hc : n ≤ c ∧ c ≤ 9223372036854775807) (k : Int) (hk : (-9223372036854775808 ≤ k ∧ k ≤ 9223372036854775807)) (mo : Int) (hmo0 : (-9223372036854775808 ≤ mo ∧ mo ≤ 9223372036854775807)) :
    Calls Try.prog 4 #[.slice A n c, .int .i64 k, .int .i64 mo] w fun e w' => e = .returned (.bool true) ∧ Below w.heap.size w w' := by
  have HL := Lib.hid hr.len
  have HF := Lib.hid hr.2
  have R := hr
  have hB := Below.refl w.heap.size w
  by_cases h : ckT L k = 0
  rotate_left
  · have d1 : (ckT L k != 0) = true := by rw [bne_iff_ne]; exact h
    have HK := Lib.hid (recheck8_any A n c L k w R hc)
    generalize ckT L k = x at *
    clear h
    go_enter Try.func4, Try.ntmps4
    go_wp2_with fail
    refine HK.out.mono ?_
    rintro e w1 ⟨rfl, b⟩
    replace hB := hB.trans b
    clear b
    go_wp2_with (go_at_call 11; refine (alive8_any _).mono ?_; rintro e w77 ⟨rfl, b⟩; replace hB := hB.trans (b.mono hB.size); clear b)
    go_ret
    exact ⟨rfl, hB⟩

  have hfn := (ck_zero8 h).2
  have hk2 := (ck_zero8 h).1
  have HCK := Lib.hid h
  by_cases hmo : k ≤ mo ∧ mo ≤ 200
  rotate_left
  · have HK := Lib.hid (recheck8_any A n c L k w R hc)
    rw [h] at HK
    clear h hfn hr
    go_enter Try.func4, Try.ntmps4
    go_wp2_with fail
    refine HK.out.mono ?_
    rintro e w1 ⟨rfl, b⟩
    replace hB := hB.trans b
    clear b
    go_wp2_with (go_at_call 11; refine (alive8_any _).mono ?_; rintro e w77 ⟨rfl, b⟩; replace hB := hB.trans (b.mono hB.size); clear b)
    all_goals first
      | (go_ret; exact ⟨rfl, hB⟩)
      | (exfalso; omega)
  obtain ⟨m, rfl⟩ : ∃ m : Nat, k = (m : Int) := ⟨k.toNat, by omega⟩
  obtain ⟨q, rfl⟩ : ∃ q : Nat, mo = (q : Int) := ⟨mo.toNat, by omega⟩
  have HLS := Lib.hid (show lsL L (m : Int) = lstF L m from by rw [lsL, if_pos h]; rfl)
  have hq := ck_of (fn_more hfn hmo.1) (by omega)
  have HCQ := Lib.hid hq
  have HLQ := Lib.hid (show lsL L (q : Int) = lstF L q from by rw [lsL, if_pos hq]; rfl)
  have HLT := Lib.hid (lst_lt HF.out)
  have HLN := Lib.hid (lstF_len L)
  have HV := Lib.hid (fun (i : Nat) (hi : m ≤ i + 1) => val_last (i := (i : Int)) hfn (by omega))
  have hmq : m ≤ q := by omega
  have d2 : decide ((q : Int) < (m : Int)) = false := by rw [decide_eq_false_iff_not]; omega
  have d3 : decide ((q : Int) > 200) = false := by rw [decide_eq_false_iff_not]; omega
  clear h hq hfn hr
  go_enter Try.func4, Try.ntmps4
  go_wp2_with fail
  refine (recheck8_any A n c L (m : Int) _ R hc).mono ?_
  rintro e w1 ⟨rfl, b⟩
  rw [HCK.out]
  replace R := R.mv b
  replace hB := hB.trans (b.mono hB.size)
  clear b
  go_wp2_with fail
  have H2 := list_any A n c L (m : Int) _ R hc
  rw [HLS.out, HCK.out, HLN.out m] at H2
  refine (H2).mono ?_
  rintro e w2 ⟨A4, c4, rfl, o4, b⟩
  have R4 := own_rdU o4 (HLT.out m)
  clear o4
  replace R := R.mv b
  replace hB := hB.trans (b.mono hB.size)
  clear b
  clear H2
  go_wp2_with fail
  have H3 := list_any A n c L (q : Int) _ R hc
  rw [HLQ.out, HCQ.out, HLN.out q] at H3
  refine (H3).mono ?_
  rintro e w3 ⟨A5, c5, rfl, o5, b⟩
  have R5 := own_rdU o5 (HLT.out q)
  clear o5
  replace R := R.mv b
  replace R4 := R4.mv b
  replace hB := hB.trans (b.mono hB.size)
  clear b
  clear H3
  go_wp2_with fail
  go_loopw [11] (fun i wr => ∃ (j : Nat), j ≤ q ∧ i = .int .i64 (j : Int) ∧ RdU wr A4 m (lstF L m) ∧ RdU wr A5 q (lstF L q) ∧ Below w.heap.size w wr) (fun i _ => q - (intOf i).toNat)
  case atStart => exact ⟨0, by omega, rfl, R4, R5, hB⟩
  case round =>
    obtain ⟨j, hj, rfl, R4, R5, hB⟩ := hrel
    by_cases hlt : j < q
    rotate_left
    · go_wp2_with (go_at_call 11; refine (alive8_any _).mono ?_; rintro e w77 ⟨rfl, b⟩; replace hB := hB.trans (b.mono hB.size); clear b)
      go_ret
      exact ⟨rfl, hB⟩
    obtain ⟨ad, y, hA, _, hy, c0, _⟩ := R5.at_ hlt
    have HY := Lib.hid (show y = valA L (j : Int) from by rw [lst_get hlt] at hy; injection hy with hy; exact hy.symm)
    have HA5 := Lib.hid hA
    clear hy
    by_cases hjm : j + 1 ≤ m
    · obtain ⟨ad2, z, hA2, _, hz, d0, _⟩ := R4.at_ (k := j) (by omega)
      have hyz : y = z := by rw [lst_get (by omega)] at hz; injection hz with hz; rw [HY.out]; exact hz
      have HA4 := Lib.hid hA2
      subst hyz hA2 hA
      clear hz
      have i0 : (j : Int) ≤ (m : Int) - 1 := by omega
      have i1 : (j : Int) < (q : Int) := by omega
      have i2 : (j : Int) < (m : Int) := by omega
      have i3 : (0 : Int) ≤ (j : Int) := by omega
      have hmin : min (j : Int) ((m : Int) - 1) = (j : Int) := by omega

      go_wp2_with fail
      go_quiet (fail)
      go_wp2_with fail
      have b := below_drewN (Below.refl wr.heap.size wr) nq
      go_roundw
      case rel => exact ⟨j + 1, by omega, by go_num, R4.mv b, R5.mv b, below_drewN hB nq⟩
      case measure => simp [intOf]; omega

    · obtain ⟨ad2, z, hA2, _, hz, d0, _⟩ := R4.at_ (k := m - 1) (by omega)
      have hyz : y = z := by
        rw [lst_get (by omega)] at hz
        injection hz with hz
        rw [HY.out, HV.out j (by omega), ← hz]
        congr 1; omega
      have HA4 := Lib.hid hA2
      subst hyz hA2 hA
      clear hz
      obtain ⟨t, ht⟩ : ∃ t, m = t + 1 := ⟨m - 1, by omega⟩
      rw [show m - 1 = t from by omega] at d0
      have i1 : (j : Int) < (q : Int) := by omega
      have i2 : (t : Int) < (m : Int) := by omega
      have i3 : (0 : Int) ≤ (t : Int) := by omega
      have i4 : (0 : Int) ≤ (j : Int) := by omega
      have hmin : min (j : Int) ((m : Int) - 1) = (t : Int) := by omega
      have hm1 : (m : Int) - 1 = (t : Int) := by omega
      have i5 : ¬ (j : Int) ≤ (t : Int) := by omega
      have i6 : ¬ (j : Int) < (t : Int) := by omega
      clear ht hjm

      go_wp2_with fail
      go_quiet (fail)
      go_wp2_with fail
      have b := below_drewN (Below.refl wr.heap.size wr) nq
      go_roundw
      case rel => exact ⟨j + 1, by omega, by go_num, R4.mv b, R5.mv b, below_drewN hB nq⟩
      case measure => simp [intOf]; omega

end Go.Proofs.Ytibkimmagiijnaa
