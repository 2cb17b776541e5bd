/- Contracts and laws of another chapter that this one leans on. Each states its conditions. -/
import Derived.Test.YtkhdeoihjnpnaaaChecked
import Derived.Test.YtkhdeoihjnpnaaaMem
import Derived.Test.YtkhdeoihjnpnaaaSlice
import Derived.Test.YtkhdeoihjnpnaaaArr
import Derived.Test.YtkhdeoihjnpnaaaRegion
import Derived.Test.YtkhdeoihjnpnaaaRet
import Derived.Test.YtkhdeoihjnpnaaaRbb
import Derived.Test.YtkhdeoihjnpnaaaWireRdLaw
namespace Go.Proofs.Ytkhdeoihjnpnaaa
open Go.RowKit Wire
set_option linter.unusedVariables false

set_option maxRecDepth 100000 in
set_option maxHeartbeats 1600000 in
theorem unvary_any (A : Option Addr) (n c : Nat) (l : List UInt8) (a : Int) (most : Nat) (w : World) (hr : Rb w A n l) (hn : n ≤ 9223372036854775807) (hm : most < 18446744073709551616) (ha : -9223372036854775808 ≤ a ∧ a ≤ 9223372036854775807) :
    Calls Try.prog 29 #[cur A n c a, .int .u64 (most : Int)] w fun e w' => e = .returned (.tuple #[uvC A n c l a most, .int .u64 (uvN l a most : Nat), .int .i64 (uvE l a most)]) ∧ Below w.heap.size w w' := by
  have HL := Lib.hid hr.len8
  have HR := Lib.hid hr
  have HM := Lib.hid hm
  clear hr hm
  have hB0 := ((Below.refl w.heap.size w).alloc (Nat.le_refl _) (.cells #[.slice A n c, .int .i64 a] 39)).alloc (by simp) (.cells #[.slice none 0 0, .int .i64 0] 39)
  have hk0 := (Blk.new w 39 #[.slice A n c, .int .i64 a]).alloc (.cells #[.slice none 0 0, .int .i64 0] 39)
  have hz0 := Blk.new (w.alloc (.cells #[.slice A n c, .int .i64 a] 39)) 39 #[.slice none 0 0, .int .i64 0]
  rw [alloc_size] at hz0
  have hg := hz0.lt
  cases hck : ckB n a
  · have HC := Lib.hid (show ckE n a = 8 from by simp [ckE, hck])
    have HE := Lib.hid (show uvE l a most = 8 from by simp [uvE, HL.out, hck])
    have HB := Lib.hid (uv_bad A n c HE.out (by decide))
    rw [HB.out.1, HB.out.2, HE.out]
    clear HB HE hck
    go_enter Try.func29, Try.ntmps29
    go_wp2_with fail
    refine (check_any A n c a _).mono ?_
    rintro e w1 ⟨rfl, hb1⟩
    rw [HC.out]
    have hz1 := hz0.below hb1 hg
    have hB1 := hB0.trans (hb1.mono hB0.size)
    have hc1 : w1.cell? ⟨w.heap.size + 1, 0, none⟩ = some (.slice none 0 0) := (hz1.cell 0).trans rfl
    have hc2 : w1.cell? ⟨w.heap.size + 1, 1, none⟩ = some (.int .i64 0) := (hz1.cell 1).trans rfl
    have hf1 := hz1.frozen 0
    have hf2 := hz1.frozen 1
    go_wp2_with fail
    refine bodyPost_ret (v := .tuple #[cur none 0 0 0, .int .u64 0, .int .i64 8]) ((results_arr_tmp2 (p := 4) (q := 5) (r := 6) rfl _ _ (w.heap.size + 1) _ #[.slice none 0 0, .int .i64 0] (0, 0) _ rfl ((hz1.set_ 0 (.slice none 0 0)).set_ 1 (.int .i64 0)) Try.underlying39 rfl (cur_sized _ _)).trans rfl) rfl ?_
    exact ⟨rfl, (hB1.setCell (p := ⟨w.heap.size + 1, 0, none⟩) (show w.heap.size ≤ w.heap.size + 1 by omega) _).setCell (p := ⟨w.heap.size + 1, 1, none⟩) (show w.heap.size ≤ w.heap.size + 1 by omega) _⟩
  · obtain ⟨h1, h2, h3⟩ := ck_ok hck
    have HC := Lib.hid (show ckE n a = 0 from by simp [ckE, hck])
    have HE := Lib.hid (show uvE l a most = (if (uvR l a).1 ≠ 0 then (uvR l a).1 else if most < (uvR l a).2.1 then 4 else 0) from by simp [uvE, HL.out, hck])
    obtain ⟨k, rfl⟩ : ∃ k : Nat, a = (k : Int) := ⟨a.toNat, by omega⟩
    clear hck
    go_enter Try.func29, Try.ntmps29
    go_wp2_with fail
    refine (check_any A n c (k : Int) _).mono ?_
    rintro e w1 ⟨rfl, hb1⟩
    rw [HC.out]
    have hz1 := hz0.below hb1 hg
    have hk1 := hk0.below hb1 (by omega)
    have hB1 := hB0.trans (hb1.mono hB0.size)
    clear hz0 hk0 hB0 hb1 hg
    go_wp2_with fail
    go_loopw [8, 9, 10] (fun x i y wr => ∃ (j m : Nat), k + j ≤ n ∧ j ≤ 9 ∧ i = .int .i64 (j : Int) ∧ x = .int .u64 (m : Int) ∧ m < 128 ^ j ∧ rdV j m (l.drop (k + j)) = uvR l (k : Int) ∧ Blk wr w.heap.size 39 #[.slice A n c, .int .i64 ((k + j : Nat) : Int)] ∧
        Blk wr (w.heap.size + 1) 39 #[.slice none 0 0, .int .i64 0] ∧ Below w.heap.size w wr) (fun _ i _ _ => 10 - (intOf i).toNat)
    case atStart => exact ⟨0, 0, by omega, by omega, rfl, rfl, by simp, rfl, hk1, hz1, hB1⟩
    case round =>
      obtain ⟨j, m, hj, hj9, rfl, rfl, hm, hrd, hk, hz, hB⟩ := hrel
      have HD := Lib.hid hrd
      have HM2 := Lib.hid hm
      clear hrd hm
      have ck0 : wr.cell? ⟨w.heap.size, 0, none⟩ = some (.slice A n c) := (hk.cell 0).trans rfl
      have ck1 : wr.cell? ⟨w.heap.size, 1, none⟩ = some (.int .i64 ((k + j : Nat) : Int)) := (hk.cell 1).trans rfl
      have ckf := hk.frozen 1
      have hc1 : wr.cell? ⟨w.heap.size + 1, 0, none⟩ = some (.slice none 0 0) := (hz.cell 0).trans rfl
      have hc2 : wr.cell? ⟨w.heap.size + 1, 1, none⟩ = some (.int .i64 0) := (hz.cell 1).trans rfl
      have hf1 := hz.frozen 0
      have hf2 := hz.frozen 1
      by_cases hend : k + j = n
      · have d1 : decide (((k + j : Nat) : Int) = (n : Int)) = true := by simp; omega
        have HU := Lib.hid (show uvR l (k : Int) = (24, 0, 0) from by rw [← HD.out, List.drop_eq_nil_of_le (by rw [HL.out]; omega)]; rfl)
        have HV := Lib.hid (uv_bad (l := l) (a := (k : Int)) (most := most) A n c (show uvE l (k : Int) most = 24 from by rw [HE.out, HU.out]; rfl) (by decide))
        have HE2 := Lib.hid (show uvE l (k : Int) most = 24 from by rw [HE.out, HU.out]; rfl)
        go_wp2_with fail
        refine bodyPost_ret (v := .tuple #[cur none 0 0 0, .int .u64 0, .int .i64 24]) ((results_arr_tmp2 (p := 4) (q := 5) (r := 6) rfl _ _ (w.heap.size + 1) _ #[.slice none 0 0, .int .i64 0] (0, 0) _ rfl ((hz.set_ 0 (.slice none 0 0)).set_ 1 (.int .i64 0)) Try.underlying39 rfl (cur_sized _ _)).trans rfl) rfl ?_
        exact ⟨by rw [HV.out.1, HV.out.2, HE2.out]; rfl, (hB.setCell (p := ⟨w.heap.size + 1, 0, none⟩) (show w.heap.size ≤ w.heap.size + 1 by omega) _).setCell (p := ⟨w.heap.size + 1, 1, none⟩) (show w.heap.size ≤ w.heap.size + 1 by omega) _⟩
      · have d1 : decide (((k + j : Nat) : Int) = (n : Int)) = false := by simp; omega
        obtain ⟨ad, y, rfl, hyb, hy, hcy⟩ := (HR.out.mv hB).byte (show k + j < n from by omega)
        have HY := Lib.hid (drop_at hy)
        have hy8 := y.toNat_lt
        by_cases hA : j = 9 ∧ 1 < y.toNat
        · have HU := Lib.hid (show uvR l (k : Int) = (12, 0, 0) from by rw [← HD.out, HY.out, rdV_form (.inl hA)])
          have d9 : ((j : Int) == 9) = true := by simp; omega
          have dy : decide ((1 : Int) < (y.toNat : Int)) = true := by simp; omega
          have HAA := Lib.hid hA
          clear hA HY hy
          generalize y.toNat = z at *
          have HV := Lib.hid (uv_bad (l := l) (a := (k : Int)) (most := most) (some ad) n c (show uvE l (k : Int) most = 12 from by rw [HE.out, HU.out]; rfl) (by decide))
          have HE2 := Lib.hid (show uvE l (k : Int) most = 12 from by rw [HE.out, HU.out]; rfl)
          go_wp2_with fail
          refine bodyPost_ret (v := .tuple #[cur none 0 0 0, .int .u64 0, .int .i64 12]) ((results_arr_tmp2 (p := 4) (q := 5) (r := 6) rfl _ _ (w.heap.size + 1) _ #[.slice none 0 0, .int .i64 0] (0, 0) _ rfl (((hz.far (p := ⟨w.heap.size, 1, none⟩) (show w.heap.size + 1 ≠ w.heap.size by omega) (.int .i64 ((k : Int) + j + 1))).set_ 0 (.slice none 0 0)).set_ 1 (.int .i64 0)) Try.underlying39 rfl (cur_sized _ _)).trans rfl) rfl ?_
          exact ⟨by rw [HV.out.1, HV.out.2, HE2.out]; rfl, ((hB.setCell (p := ⟨w.heap.size, 1, none⟩) (Nat.le_refl _) (.int .i64 ((k : Int) + j + 1))).setCell (p := ⟨w.heap.size + 1, 0, none⟩) (show w.heap.size ≤ w.heap.size + 1 by omega) _).setCell (p := ⟨w.heap.size + 1, 1, none⟩) (show w.heap.size ≤ w.heap.size + 1 by omega) _⟩
        · by_cases hBB : 0 < j ∧ y.toNat = 0
          · have HU := Lib.hid (show uvR l (k : Int) = (12, 0, 0) from by rw [← HD.out, HY.out, rdV_form (.inr hBB)])
            obtain ⟨h0j, hz0⟩ := hBB
            clear hA HY hy
            generalize y.toNat = z at *
            subst hz0
            cases h9 : ((j : Int) == 9)
            · have HXX := Lib.hid h9
              have HV := Lib.hid (uv_bad (l := l) (a := (k : Int)) (most := most) (some ad) n c (show uvE l (k : Int) most = 12 from by rw [HE.out, HU.out]; rfl) (by decide))
              have HE2 := Lib.hid (show uvE l (k : Int) most = 12 from by rw [HE.out, HU.out]; rfl)
              go_wp2_with fail
              refine bodyPost_ret (v := .tuple #[cur none 0 0 0, .int .u64 0, .int .i64 12]) ((results_arr_tmp2 (p := 4) (q := 5) (r := 6) rfl _ _ (w.heap.size + 1) _ #[.slice none 0 0, .int .i64 0] (0, 0) _ rfl (((hz.far (p := ⟨w.heap.size, 1, none⟩) (show w.heap.size + 1 ≠ w.heap.size by omega) (.int .i64 ((k : Int) + j + 1))).set_ 0 (.slice none 0 0)).set_ 1 (.int .i64 0)) Try.underlying39 rfl (cur_sized _ _)).trans rfl) rfl ?_
              exact ⟨by rw [HV.out.1, HV.out.2, HE2.out]; rfl, ((hB.setCell (p := ⟨w.heap.size, 1, none⟩) (Nat.le_refl _) (.int .i64 ((k : Int) + j + 1))).setCell (p := ⟨w.heap.size + 1, 0, none⟩) (show w.heap.size ≤ w.heap.size + 1 by omega) _).setCell (p := ⟨w.heap.size + 1, 1, none⟩) (show w.heap.size ≤ w.heap.size + 1 by omega) _⟩
            · have HXX := Lib.hid h9
              have HV := Lib.hid (uv_bad (l := l) (a := (k : Int)) (most := most) (some ad) n c (show uvE l (k : Int) most = 12 from by rw [HE.out, HU.out]; rfl) (by decide))
              have HE2 := Lib.hid (show uvE l (k : Int) most = 12 from by rw [HE.out, HU.out]; rfl)
              go_wp2_with fail
              refine bodyPost_ret (v := .tuple #[cur none 0 0 0, .int .u64 0, .int .i64 12]) ((results_arr_tmp2 (p := 4) (q := 5) (r := 6) rfl _ _ (w.heap.size + 1) _ #[.slice none 0 0, .int .i64 0] (0, 0) _ rfl (((hz.far (p := ⟨w.heap.size, 1, none⟩) (show w.heap.size + 1 ≠ w.heap.size by omega) (.int .i64 ((k : Int) + j + 1))).set_ 0 (.slice none 0 0)).set_ 1 (.int .i64 0)) Try.underlying39 rfl (cur_sized _ _)).trans rfl) rfl ?_
              exact ⟨by rw [HV.out.1, HV.out.2, HE2.out]; rfl, ((hB.setCell (p := ⟨w.heap.size, 1, none⟩) (Nat.le_refl _) (.int .i64 ((k : Int) + j + 1))).setCell (p := ⟨w.heap.size + 1, 0, none⟩) (show w.heap.size ≤ w.heap.size + 1 by omega) _).setCell (p := ⟨w.heap.size + 1, 1, none⟩) (show w.heap.size ≤ w.heap.size + 1 by omega) _⟩
          · have hnot : ¬ ((j = 9 ∧ 1 < y.toNat) ∨ (0 < j ∧ y.toNat = 0)) := fun h => h.elim hA hBB
            have hdone : y.toNat < 128 → uvR l (k : Int) = (0, m + y.toNat * 128 ^ j, j + 1) := fun h => by rw [← HD.out, HY.out, rdV_done hnot h]
            have hmore : ¬ y.toNat < 128 → rdV (j + 1) (m + y.toNat % 128 * 128 ^ j) (l.drop (k + j + 1)) = uvR l (k : Int) := fun h => by
              rw [← HD.out, HY.out, rdV_more hnot h, show y.toNat % 128 = y.toNat - 128 from by omega]
            have h9le : j = 9 → y.toNat ≤ 1 := fun h => by omega
            have hor := or_step hy8 hj9 HM2.out h9le
            clear hnot HY hy
            generalize y.toNat = z at *
            by_cases h9 : j = 9
            · have d9 : ((j : Int) == 9) = true := by simp; omega
              have dy : decide ((1 : Int) < (z : Int)) = false := by simp; omega
              have d0 : 0 < j := by omega
              have dz : ((z : Int) == 0) = false := by rw [beq_eq_false_iff_ne]; omega
              have HX9 := Lib.hid h9
              clear h9 hA hBB
              by_cases hlt : z < 128
              · have hzz : z % 128 = z := by omega
                rw [hzz] at hor
                have HU := Lib.hid (hdone hlt)
                have hv64 : m + z * 128 ^ j < 18446744073709551616 := by
                  have h1 := put_lt (x := z) hj9 hlt h9le
                  have h2 := pow_le9 hj9
                  have h3 := HM2.out
                  omega
                clear hdone hmore h9le
                generalize m + z * 128 ^ j = v at *
                by_cases hmv : most < v
                · have HV := Lib.hid (uv_bad (l := l) (a := (k : Int)) (most := most) (some ad) n c (show uvE l (k : Int) most = 4 from by rw [HE.out, HU.out]; simp [hmv]) (by decide))
                  have HE2 := Lib.hid (show uvE l (k : Int) most = 4 from by rw [HE.out, HU.out]; simp [hmv])
                  go_wp2_with fail
                  refine bodyPost_ret (v := .tuple #[cur none 0 0 0, .int .u64 0, .int .i64 4]) ((results_arr_tmp2 (p := 4) (q := 5) (r := 6) rfl _ _ (w.heap.size + 1) _ #[.slice none 0 0, .int .i64 0] (0, 0) _ rfl (((hz.far (p := ⟨w.heap.size, 1, none⟩) (show w.heap.size + 1 ≠ w.heap.size by omega) (.int .i64 ((k : Int) + j + 1))).set_ 0 (.slice none 0 0)).set_ 1 (.int .i64 0)) Try.underlying39 rfl (cur_sized _ _)).trans rfl) rfl ?_
                  exact ⟨by rw [HV.out.1, HV.out.2, HE2.out]; rfl, ((hB.setCell (p := ⟨w.heap.size, 1, none⟩) (Nat.le_refl _) (.int .i64 ((k : Int) + j + 1))).setCell (p := ⟨w.heap.size + 1, 0, none⟩) (show w.heap.size ≤ w.heap.size + 1 by omega) _).setCell (p := ⟨w.heap.size + 1, 1, none⟩) (show w.heap.size ≤ w.heap.size + 1 by omega) _⟩
                · have HE2 := Lib.hid (show uvE l (k : Int) most = 0 from by rw [HE.out, HU.out]; simp [hmv])
                  have HV := Lib.hid (uv_ok (l := l) (a := (k : Int)) (most := most) (some ad) n c HE2.out)
                  go_wp2_with fail
                  refine bodyPost_ret (v := .tuple #[cur (some ad) n c ((k : Int) + j + 1), .int .u64 (v : Int), .int .i64 0]) ((results_arr_tmp2 (p := 4) (q := 5) (r := 6) rfl _ _ (w.heap.size + 1) _ #[.slice (some ad) n c, .int .i64 ((k : Int) + j + 1)] (0, 0) _ rfl (((hz.far (p := ⟨w.heap.size, 1, none⟩) (show w.heap.size + 1 ≠ w.heap.size by omega) (.int .i64 ((k : Int) + j + 1))).set_ 0 (.slice (some ad) n c)).set_ 1 (.int .i64 ((k : Int) + j + 1))) Try.underlying39 rfl (cur_sized _ _)).trans rfl) rfl ?_
                  exact ⟨by rw [HV.out.1, HV.out.2, HE2.out, HU.out, show (k : Int) + j + 1 = (k : Int) + ((j + 1 : Nat) : Int) from by omega], ((hB.setCell (p := ⟨w.heap.size, 1, none⟩) (Nat.le_refl _) (.int .i64 ((k : Int) + j + 1))).setCell (p := ⟨w.heap.size + 1, 0, none⟩) (show w.heap.size ≤ w.heap.size + 1 by omega) _).setCell (p := ⟨w.heap.size + 1, 1, none⟩) (show w.heap.size ≤ w.heap.size + 1 by omega) _⟩
              · exact absurd (h9le HX9.out) (by omega)
            · have d9 : ((j : Int) == 9) = false := by rw [beq_eq_false_iff_ne]; omega
              by_cases h0 : 0 < j
              · have dz : ((z : Int) == 0) = false := by rw [beq_eq_false_iff_ne]; omega
                clear hA hBB
                by_cases hlt : z < 128
                · have hzz : z % 128 = z := by omega
                  rw [hzz] at hor
                  have HU := Lib.hid (hdone hlt)
                  have hv64 : m + z * 128 ^ j < 18446744073709551616 := by
                    have h1 := put_lt (x := z) hj9 hlt h9le
                    have h2 := pow_le9 hj9
                    have h3 := HM2.out
                    omega
                  clear hdone hmore h9le
                  generalize m + z * 128 ^ j = v at *
                  by_cases hmv : most < v
                  · have HV := Lib.hid (uv_bad (l := l) (a := (k : Int)) (most := most) (some ad) n c (show uvE l (k : Int) most = 4 from by rw [HE.out, HU.out]; simp [hmv]) (by decide))
                    have HE2 := Lib.hid (show uvE l (k : Int) most = 4 from by rw [HE.out, HU.out]; simp [hmv])
                    go_wp2_with fail
                    refine bodyPost_ret (v := .tuple #[cur none 0 0 0, .int .u64 0, .int .i64 4]) ((results_arr_tmp2 (p := 4) (q := 5) (r := 6) rfl _ _ (w.heap.size + 1) _ #[.slice none 0 0, .int .i64 0] (0, 0) _ rfl (((hz.far (p := ⟨w.heap.size, 1, none⟩) (show w.heap.size + 1 ≠ w.heap.size by omega) (.int .i64 ((k : Int) + j + 1))).set_ 0 (.slice none 0 0)).set_ 1 (.int .i64 0)) Try.underlying39 rfl (cur_sized _ _)).trans rfl) rfl ?_
                    exact ⟨by rw [HV.out.1, HV.out.2, HE2.out]; rfl, ((hB.setCell (p := ⟨w.heap.size, 1, none⟩) (Nat.le_refl _) (.int .i64 ((k : Int) + j + 1))).setCell (p := ⟨w.heap.size + 1, 0, none⟩) (show w.heap.size ≤ w.heap.size + 1 by omega) _).setCell (p := ⟨w.heap.size + 1, 1, none⟩) (show w.heap.size ≤ w.heap.size + 1 by omega) _⟩
                  · have HE2 := Lib.hid (show uvE l (k : Int) most = 0 from by rw [HE.out, HU.out]; simp [hmv])
                    have HV := Lib.hid (uv_ok (l := l) (a := (k : Int)) (most := most) (some ad) n c HE2.out)
                    go_wp2_with fail
                    refine bodyPost_ret (v := .tuple #[cur (some ad) n c ((k : Int) + j + 1), .int .u64 (v : Int), .int .i64 0]) ((results_arr_tmp2 (p := 4) (q := 5) (r := 6) rfl _ _ (w.heap.size + 1) _ #[.slice (some ad) n c, .int .i64 ((k : Int) + j + 1)] (0, 0) _ rfl (((hz.far (p := ⟨w.heap.size, 1, none⟩) (show w.heap.size + 1 ≠ w.heap.size by omega) (.int .i64 ((k : Int) + j + 1))).set_ 0 (.slice (some ad) n c)).set_ 1 (.int .i64 ((k : Int) + j + 1))) Try.underlying39 rfl (cur_sized _ _)).trans rfl) rfl ?_
                    exact ⟨by rw [HV.out.1, HV.out.2, HE2.out, HU.out, show (k : Int) + j + 1 = (k : Int) + ((j + 1 : Nat) : Int) from by omega], ((hB.setCell (p := ⟨w.heap.size, 1, none⟩) (Nat.le_refl _) (.int .i64 ((k : Int) + j + 1))).setCell (p := ⟨w.heap.size + 1, 0, none⟩) (show w.heap.size ≤ w.heap.size + 1 by omega) _).setCell (p := ⟨w.heap.size + 1, 1, none⟩) (show w.heap.size ≤ w.heap.size + 1 by omega) _⟩
                · have HU := Lib.hid (hmore hlt)
                  have HV2 := Lib.hid (acc_lt (y := z) HM2.out)
                  have hj8 : j ≤ 8 := by omega
                  have hv64 : m + z % 128 * 128 ^ j < 18446744073709551616 := by
                    have h1 := put_lt (x := z % 128) hj9 (by omega) (fun h => by omega)
                    have h2 := pow_le9 hj9
                    have h3 := HM2.out
                    omega
                  clear hdone hmore h9le
                  generalize m + z % 128 * 128 ^ j = v at *
                  go_wp2_with fail
                  go_roundw
                  case rel => exact ⟨j + 1, v, by omega, by omega, by go_num, rfl, HV2.out, by rw [← Nat.add_assoc]; exact HU.out, (hk.set_ 1 (.int .i64 ((k : Int) + j + 1))), (hz.far (p := ⟨w.heap.size, 1, none⟩) (show w.heap.size + 1 ≠ w.heap.size by omega) (.int .i64 ((k : Int) + j + 1))), (hB.setCell (p := ⟨w.heap.size, 1, none⟩) (Nat.le_refl _) (.int .i64 ((k : Int) + j + 1)))⟩
                  case measure => simp [intOf]; omega
              · clear hA hBB
                by_cases hlt : z < 128
                · have hzz : z % 128 = z := by omega
                  rw [hzz] at hor
                  have HU := Lib.hid (hdone hlt)
                  have hv64 : m + z * 128 ^ j < 18446744073709551616 := by
                    have h1 := put_lt (x := z) hj9 hlt h9le
                    have h2 := pow_le9 hj9
                    have h3 := HM2.out
                    omega
                  clear hdone hmore h9le
                  generalize m + z * 128 ^ j = v at *
                  by_cases hmv : most < v
                  · have HV := Lib.hid (uv_bad (l := l) (a := (k : Int)) (most := most) (some ad) n c (show uvE l (k : Int) most = 4 from by rw [HE.out, HU.out]; simp [hmv]) (by decide))
                    have HE2 := Lib.hid (show uvE l (k : Int) most = 4 from by rw [HE.out, HU.out]; simp [hmv])
                    go_wp2_with fail
                    refine bodyPost_ret (v := .tuple #[cur none 0 0 0, .int .u64 0, .int .i64 4]) ((results_arr_tmp2 (p := 4) (q := 5) (r := 6) rfl _ _ (w.heap.size + 1) _ #[.slice none 0 0, .int .i64 0] (0, 0) _ rfl (((hz.far (p := ⟨w.heap.size, 1, none⟩) (show w.heap.size + 1 ≠ w.heap.size by omega) (.int .i64 ((k : Int) + j + 1))).set_ 0 (.slice none 0 0)).set_ 1 (.int .i64 0)) Try.underlying39 rfl (cur_sized _ _)).trans rfl) rfl ?_
                    exact ⟨by rw [HV.out.1, HV.out.2, HE2.out]; rfl, ((hB.setCell (p := ⟨w.heap.size, 1, none⟩) (Nat.le_refl _) (.int .i64 ((k : Int) + j + 1))).setCell (p := ⟨w.heap.size + 1, 0, none⟩) (show w.heap.size ≤ w.heap.size + 1 by omega) _).setCell (p := ⟨w.heap.size + 1, 1, none⟩) (show w.heap.size ≤ w.heap.size + 1 by omega) _⟩
                  · have HE2 := Lib.hid (show uvE l (k : Int) most = 0 from by rw [HE.out, HU.out]; simp [hmv])
                    have HV := Lib.hid (uv_ok (l := l) (a := (k : Int)) (most := most) (some ad) n c HE2.out)
                    go_wp2_with fail
                    refine bodyPost_ret (v := .tuple #[cur (some ad) n c ((k : Int) + j + 1), .int .u64 (v : Int), .int .i64 0]) ((results_arr_tmp2 (p := 4) (q := 5) (r := 6) rfl _ _ (w.heap.size + 1) _ #[.slice (some ad) n c, .int .i64 ((k : Int) + j + 1)] (0, 0) _ rfl (((hz.far (p := ⟨w.heap.size, 1, none⟩) (show w.heap.size + 1 ≠ w.heap.size by omega) (.int .i64 ((k : Int) + j + 1))).set_ 0 (.slice (some ad) n c)).set_ 1 (.int .i64 ((k : Int) + j + 1))) Try.underlying39 rfl (cur_sized _ _)).trans rfl) rfl ?_
                    exact ⟨by rw [HV.out.1, HV.out.2, HE2.out, HU.out, show (k : Int) + j + 1 = (k : Int) + ((j + 1 : Nat) : Int) from by omega], ((hB.setCell (p := ⟨w.heap.size, 1, none⟩) (Nat.le_refl _) (.int .i64 ((k : Int) + j + 1))).setCell (p := ⟨w.heap.size + 1, 0, none⟩) (show w.heap.size ≤ w.heap.size + 1 by omega) _).setCell (p := ⟨w.heap.size + 1, 1, none⟩) (show w.heap.size ≤ w.heap.size + 1 by omega) _⟩
                · have HU := Lib.hid (hmore hlt)
                  have HV2 := Lib.hid (acc_lt (y := z) HM2.out)
                  have hj8 : j ≤ 8 := by omega
                  have hv64 : m + z % 128 * 128 ^ j < 18446744073709551616 := by
                    have h1 := put_lt (x := z % 128) hj9 (by omega) (fun h => by omega)
                    have h2 := pow_le9 hj9
                    have h3 := HM2.out
                    omega
                  clear hdone hmore h9le
                  generalize m + z % 128 * 128 ^ j = v at *
                  go_wp2_with fail
                  go_roundw
                  case rel => exact ⟨j + 1, v, by omega, by omega, by go_num, rfl, HV2.out, by rw [← Nat.add_assoc]; exact HU.out, (hk.set_ 1 (.int .i64 ((k : Int) + j + 1))), (hz.far (p := ⟨w.heap.size, 1, none⟩) (show w.heap.size + 1 ≠ w.heap.size by omega) (.int .i64 ((k : Int) + j + 1))), (hB.setCell (p := ⟨w.heap.size, 1, none⟩) (Nat.le_refl _) (.int .i64 ((k : Int) + j + 1)))⟩
                  case measure => simp [intOf]; omega
end Go.Proofs.Ytkhdeoihjnpnaaa
