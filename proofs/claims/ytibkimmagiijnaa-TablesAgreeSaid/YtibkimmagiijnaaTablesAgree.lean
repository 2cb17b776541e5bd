/- The walk of TablesAgree. -/
import Derived.Test.YtibkimmagiijnaaTab8
import Derived.Test.YtibkimmagiijnaaTab5
namespace Go.Proofs.Ytibkimmagiijnaa
open Go.RowKit Wire
set_option linter.unusedVariables false

set_option maxRecDepth 100000 in
set_option maxHeartbeats 8000000 in
theorem tablesAgree_walk (w : World) (A : Option Addr) (n c : Nat) (v : List Nat) (hr : RdU w A n v) (hc : n ≤ c ∧ c ≤ 9223372036854775807) :
    Calls Try.prog 7 #[.slice A n c] w fun e w' => e = .returned (.bool true) ∧ Below w.heap.size w w' := by
  have hl := hr.len
  have hv := hr.2
  have R := hr
  have hB := Below.refl w.heap.size w
  have hc2 : n ≤ 9223372036854775807 := by omega
  by_cases hn : 1 ≤ n ∧ n ≤ 200
  rotate_left
  · go_enter Try.func7, Try.ntmps7
    go_wp2_with (go_at_call 11; refine (alive8_any _).mono ?_; rintro e w77 ⟨rfl, b⟩; replace hB := hB.trans (b.mono hB.size); clear b)
    all_goals first
      | (go_ret; exact ⟨rfl, hB⟩)
      | (exfalso; omega)
  have d1 : decide ((n : Int) < 1) = false := by rw [decide_eq_false_iff_not]; omega
  have d2 : decide ((n : Int) > 200) = false := by rw [decide_eq_false_iff_not]; omega
  have hok := made_ok (v := v) (by omega)
  rw [hl] at hok
  have e1 : mkE v = 0 := by rw [mkE, hl, cnE, if_pos (by omega)]
  have HMK := Lib.hid (show mkE v = 0 ∧ mkL v = made v from ⟨e1, by rw [mkL, if_pos e1]⟩)
  have HFT := Lib.hid (made_fit hv (by omega))
  have e2 : ckT (made v) (n : Int) = 0 := ck_of hok.1 (by omega)
  have e3 : lstF (made v) n = v := by have := lst_made (v := v) (by omega); rwa [hl] at this
  have HLS := Lib.hid (show lsL (made v) (n : Int) = v ∧ ckT (made v) (n : Int) = 0 from ⟨by rw [lsL, if_pos e2]; exact e3, e2⟩)
  have HAT := Lib.hid (fun (j z : Nat) (hz : v[j]? = some z) => show atE (made v) (n : Int) (j : Int) = 0 ∧ atV (made v) (n : Int) (j : Int) = z from by
    have hj : j < n := by have := (List.getElem?_eq_some_iff.1 hz).1; omega
    have q1 : atE (made v) (n : Int) (j : Int) = 0 := by rw [atE, if_pos e2, if_pos (by omega)]
    refine ⟨q1, ?_⟩
    have q2 := hok.2 j hj
    rw [hz] at q2
    injection q2 with q2
    rw [atV, if_pos q1, q2])
  have hkl : (made v).length ≤ 1000 := fn_len hok.1 (by omega)
  have HLV := Lib.hid hl
  clear hl e1 e2 e3 hok hr hv
  generalize made v = M at *
  obtain ⟨K, hK⟩ : ∃ K, M.length = K := ⟨_, rfl⟩
  have HKL := Lib.hid hK
  rw [hK] at hkl
  clear hK
  go_enter Try.func7, Try.ntmps7
  go_wp2_with fail
  have H1 := make_any A n c v _ R hc
  rw [HMK.out.1, HMK.out.2, HKL.out] at H1
  refine (H1).mono ?_
  rintro e w1 ⟨A3, c3, rfl, o3, b⟩
  have N3 := own_rdN o3 HFT.out
  have hc3 := own_cap o3
  unfold maxLen at hc3
  clear o3
  replace R := R.mv b
  replace hB := hB.trans (b.mono hB.size)
  clear b
  clear H1
  go_wp2_with fail
  have H2 := list_any A3 K c3 M (n : Int) _ N3 hc3
  rw [HLS.out.1, HLS.out.2, HLV.out] at H2
  refine (H2).mono ?_
  rintro e w2 ⟨A5, c5, rfl, o5, b⟩
  have R5 := own_rdU o5 R.2
  clear o5
  replace R := R.mv b
  replace N3 := N3.mv b
  replace hB := hB.trans (b.mono hB.size)
  clear b
  clear H2
  go_wp2_with fail
  refine (check8_any A3 K c3 M (n : Int) _ N3 hc3).mono ?_
  rintro e w3 ⟨rfl, b⟩
  rw [HLS.out.2]
  replace R := R.mv b
  replace N3 := N3.mv b
  replace R5 := R5.mv b
  replace hB := hB.trans (b.mono hB.size)
  clear b
  go_wp2_with fail
  refine (sameValues_any A n c v A5 n c5 v _ R R5 hc2).mono ?_
  rintro e w4 ⟨rfl, b⟩
  rw [decide_eq_true (rfl : v = v)]
  replace R := R.mv b
  replace N3 := N3.mv b
  replace R5 := R5.mv b
  replace hB := hB.trans (b.mono hB.size)
  clear b
  go_wp2_with fail
  go_loopw [7] (fun i wr => ∃ (j : Nat), j ≤ n ∧ i = .int .i64 (j : Int) ∧ RdU wr A n v ∧ RdN wr A3 K M ∧ Below w.heap.size w wr) (fun i _ => n - (intOf i).toNat)
  case atStart => exact ⟨0, by omega, rfl, R, N3, hB⟩
  case round =>
    obtain ⟨j, hj, rfl, R, N3, hB⟩ := hrel
    by_cases hlt : j < n
    · obtain ⟨ad, z, hA, _, hz, c0, _⟩ := R.at_ hlt
      have HT := Lib.hid (HAT.out j z hz)
      clear hz
      have H3 := at_any A3 K c3 M (n : Int) (j : Int) _ N3 hc3
      rw [HT.out.1, HT.out.2] at H3
      clear c0
      go_wp2_with fail
      refine H3.mono ?_
      rintro e w6 ⟨rfl, b⟩
      replace R := R.mv b
      replace N3 := N3.mv b
      replace hB := hB.trans (b.mono hB.size)
      clear b H3
      obtain ⟨ad2, z2, hA2, _, hz2, c0, _⟩ := R.at_ hlt
      rw [hA] at hA2
      injection hA2 with hA2
      subst hA2
      have hzz : z2 = z := by
        have q1 := (HAT.out j z2 hz2).2
        rw [HT.out.2] at q1
        exact q1.symm
      subst hzz hA
      clear hz2
      have i0 : (0 : Int) ≤ (j : Int) := by omega
      have i1 : (j : Int) < (n : Int) := by omega
      go_wp2_with fail
      go_roundw
      case rel => exact ⟨j + 1, by omega, by go_num, R, N3, hB⟩
      case measure => simp [intOf]; omega
    · go_wp2_with (go_at_call 11; refine (alive8_any _).mono ?_; rintro e w77 ⟨rfl, b⟩; replace hB := hB.trans (b.mono hB.size); clear b)
      go_ret
      exact ⟨rfl, hB⟩

end Go.Proofs.Ytibkimmagiijnaa
