/- Contracts and laws of another chapter that this one leans on. Each states its conditions. -/
import Derived.Test.YtkhdeoihjnpnaaaChecked
import Derived.Test.YtkhdeoihjnpnaaaMem
import Derived.Test.YtkhdeoihjnpnaaaSlice
import Derived.Test.YtkhdeoihjnpnaaaArr
import Derived.Test.YtkhdeoihjnpnaaaRegion
import Derived.Test.YtkhdeoihjnpnaaaRet
import Derived.Test.YtkhdeoihjnpnaaaRbb
import Derived.Test.YtkhdeoihjnpnaaaWireUnsig
namespace Go.Proofs.Ytkhdeoihjnpnaaa
open Go.RowKit Wire
set_option linter.unusedVariables false

theorem curT : AggT Try.prog 39 2 := ⟨⟨_, Try.underlying39, rfl⟩, by kernel_rfl⟩
set_option maxRecDepth 100000 in
set_option maxHeartbeats 1600000 in
theorem on_any (A : Option Addr) (n c : Nat) (a : Int) (k : Nat) (w : World) (ha : 0 ≤ a ∧ a + k ≤ 9223372036854775807) :
    Calls Try.prog 46 #[cur A n c a, .int .i64 (k : Int)] w fun e w' => e = .returned (cur A n c (a + k)) ∧ Below w.heap.size w w' := by
  have hB := ((Below.refl w.heap.size w).alloc (Nat.le_refl _) (.cells #[.slice A n c, .int .i64 a] 39)).alloc (by simp) (.cells #[.slice A n c, .int .i64 (a + k)] 39)
  have hz := Blk.new (w.alloc (.cells #[.slice A n c, .int .i64 a] 39)) 39 #[.slice A n c, .int .i64 (a + k)]
  rw [alloc_size] at hz
  go_enter Try.func46, Try.ntmps46
  go_wp2_with fail
  refine ret_c rfl curT rfl hz rfl ?_
  exact ⟨rfl, hB⟩
/-- What Read answers: the error, the number, the cursor; on a cursor that is one. -/
def rdE (l : List UInt8) (a : Int) : Int := (uvR l a).1
def rdN (l : List UInt8) (a : Int) : Nat := if rdE l a = 0 then (uvR l a).2.1 else 0
def rdC (A : Option Addr) (n c : Nat) (l : List UInt8) (a : Int) : Value := if rdE l a = 0 then cur A n c (a + (uvR l a).2.2) else cur none 0 0 0
theorem rd_lt64 {m z j : Nat} (hj : j ≤ 9) (hm : m < 128 ^ j) (h9 : j = 9 → z ≤ 1) : m + z % 128 * 128 ^ j < 18446744073709551616 := by
  have h1 := put_lt (x := z % 128) hj (by omega) (fun h => by have := h9 h; omega)
  have h2 := pow_le9 hj
  omega
theorem rd_acc {m z j : Nat} (hj : j ≤ 9) (hm : m < 128 ^ j) (h9 : j = 9 → z ≤ 1) :
    IntKind.u64.wrap ((m : Int) + IntKind.u64.wrap (((128 ^ j : Nat) : Int) * ((z : Int) % 128))) = ((m + z % 128 * 128 ^ j : Nat) : Int) := by
  have h1 := rd_lt64 (z := z) hj hm h9
  have e : ((128 ^ j : Nat) : Int) * ((z : Int) % 128) = ((z % 128 * 128 ^ j : Nat) : Int) := by
    rw [Nat.mul_comm, Int.natCast_mul]; rfl
  rw [e]
  generalize z % 128 * 128 ^ j = x at *
  have e2 : IntKind.u64.wrap (x : Int) = (x : Int) := by rw [IntKind.wrap_u64]; omega
  rw [e2, IntKind.wrap_u64]; omega
theorem rd_by {j : Nat} (hj : j < 9) : IntKind.u64.wrap (((128 ^ j : Nat) : Int) * 128) = ((128 ^ (j + 1) : Nat) : Int) := by
  have h : 128 ^ (j + 1) ≤ 9223372036854775808 := pow_le9 (by omega)
  rw [Nat.pow_succ] at h ⊢
  rw [IntKind.wrap_u64]; omega
set_option maxRecDepth 100000 in
set_option maxHeartbeats 1600000 in
theorem read_any (A : Option Addr) (n c : Nat) (l : List UInt8) (k : Nat) (w : World) (hr : Rb w A n l) (hn : n ≤ 9223372036854775000) (hk : k ≤ n) :
    Calls Try.prog 41 #[cur A n c (k : Int)] w fun e w' => e = .returned (.tuple #[rdC A n c l k, .int .u64 (rdN l k : Nat), .int .i64 (rdE l k)]) ∧ Below w.heap.size w w' := by
  have HL := Lib.hid hr.len8
  have HR := Lib.hid hr
  clear hr
  have hB := ((Below.refl w.heap.size w).alloc (Nat.le_refl _) (.cells #[.slice A n c, .int .i64 (k : Int)] 39)).alloc (by simp) (.cells #[.slice none 0 0, .int .i64 0] 39)
  have hk := (Blk.new w 39 #[.slice A n c, .int .i64 (k : Int)]).alloc (.cells #[.slice none 0 0, .int .i64 0] 39)
  have hz := Blk.new (w.alloc (.cells #[.slice A n c, .int .i64 (k : Int)] 39)) 39 #[.slice none 0 0, .int .i64 0]
  rw [alloc_size] at hz
  go_enter Try.func41, Try.ntmps41
  go_wp2_with fail
  go_loop [5, 6, 7] (fun x y i => ∃ (j m : Nat), k + j ≤ n ∧ j ≤ 9 ∧ i = .int .i64 (j : Int) ∧ x = .int .u64 (m : Int) ∧ y = .int .u64 ((128 ^ j : Nat) : Int) ∧ m < 128 ^ j ∧ rdV j m (l.drop (k + j)) = uvR l (k : Int)) (fun _ _ i => 10 - (intOf i).toNat)
  case atStart => exact ⟨0, 0, by omega, by omega, rfl, rfl, rfl, by simp, rfl⟩
  case round =>
    obtain ⟨j, m, hj, hj9, rfl, rfl, rfl, hm, hrd⟩ := hrel
    have HD := Lib.hid hrd
    have HM2 := Lib.hid hm
    clear hrd hm
    by_cases hend : k + j = n
    · have d1 : decide ((n : Int) ≤ (k : Int) + (j : Int)) = true := by simp; omega
      have HU : uvR l (k : Int) = (24, 0, 0) := by rw [← HD.out, List.drop_eq_nil_of_le (by rw [HL.out]; omega)]; rfl
      have HV := Lib.hid (show rdE l (k : Int) = 24 ∧ rdN l (k : Int) = 0 ∧ rdC A n c l (k : Int) = cur none 0 0 0 from by simp [rdE, rdN, rdC, HU])
      clear HU
      go_wp2_with fail
      refine ret_c2 rfl curT rfl (by repeat (first | exact hz | apply Blk.set_ | refine Blk.far ?_ (by simp <;> omega) _ | apply Blk.alloc | apply Blk.drew)) (by rfl) ?_
      exact ⟨by rw [HV.out.1, HV.out.2.1, HV.out.2.2]; rfl, (by have hs_ := hB.size; repeat (first | exact hB | refine Below.setCell ?_ (by simp <;> omega) _ | refine Below.alloc ?_ (by simp <;> omega) _ | refine Below.drew ?_))⟩
    · have d1 : decide ((n : Int) ≤ (k : Int) + (j : Int)) = false := by simp; omega
      obtain ⟨ad, y, rfl, hyb, hy, hcy⟩ := ((HR.out.mv hB)).byte (show k + j < n from by omega)
      have HY := Lib.hid (drop_at hy)
      have hy8 := y.toNat_lt
      by_cases hA : j = 9 ∧ 1 < y.toNat
      · have HU : uvR l (k : Int) = (12, 0, 0) := by rw [← HD.out, HY.out, rdV_form (.inl hA)]
        have HV := Lib.hid (show rdE l (k : Int) = 12 ∧ rdN l (k : Int) = 0 ∧ rdC (some ad) n c l (k : Int) = cur none 0 0 0 from by simp [rdE, rdN, rdC, HU])
        have d9 : ((j : Int) == 9) = true := by simp; omega
        have dy : decide ((1 : Int) < (y.toNat : Int)) = true := by simp; omega
        clear HU hA HY hy
        generalize y.toNat = z at *
        go_wp2_with fail
        refine ret_c2 rfl curT rfl (by repeat (first | exact hz | apply Blk.set_ | refine Blk.far ?_ (by simp <;> omega) _ | apply Blk.alloc | apply Blk.drew)) (by rfl) ?_
        exact ⟨by rw [HV.out.1, HV.out.2.1, HV.out.2.2]; rfl, (by have hs_ := hB.size; repeat (first | exact hB | refine Below.setCell ?_ (by simp <;> omega) _ | refine Below.alloc ?_ (by simp <;> omega) _ | refine Below.drew ?_))⟩
      · have HF := Lib.hid (fun h : 0 < j ∧ y.toNat = 0 => show uvR l (k : Int) = (12, 0, 0) from by rw [← HD.out, HY.out, rdV_form (.inr h)])
        have HD1 := Lib.hid (fun (h1 : ¬ (0 < j ∧ y.toNat = 0)) (h2 : y.toNat < 128) => show uvR l (k : Int) = (0, m + y.toNat * 128 ^ j, j + 1) from by rw [← HD.out, HY.out, rdV_done (fun h => h.elim hA h1) h2])
        have HM1 := Lib.hid (fun (h2 : ¬ y.toNat < 128) => show rdV (j + 1) (m + y.toNat % 128 * 128 ^ j) (l.drop (k + j + 1)) = uvR l (k : Int) from by rw [← HD.out, HY.out, rdV_more (fun h => h.elim hA (fun h => by omega)) h2, show y.toNat % 128 = y.toNat - 128 from by omega])
        have h9le : j = 9 → y.toNat ≤ 1 := fun h => by omega
        clear HY hy hA
        generalize y.toNat = z at *
        have hor := rd_acc (z := z) hj9 HM2.out h9le
        have HV2 := Lib.hid (acc_lt (y := z) HM2.out)
        have HBY := Lib.hid (fun h : j < 9 => rd_by h)
        have HLT := Lib.hid (rd_lt64 (z := z) hj9 HM2.out h9le)
        by_cases h2 : z < 128
        · have hzz : z % 128 = z := by omega
          rw [hzz] at hor HLT
          clear hzz
          by_cases h0 : z = 0
          · by_cases hj0 : 0 < j
            · have HU := HF.out ⟨hj0, h0⟩
              have HV := Lib.hid (show rdE l (k : Int) = 12 ∧ rdN l (k : Int) = 0 ∧ rdC (some ad) n c l (k : Int) = cur none 0 0 0 from by simp [rdE, rdN, rdC, HU])
              clear HU HF HD1 HM1 HBY
              subst h0
              clear hor
              by_cases h9 : j = 9
              · have d9 : ((j : Int) == 9) = true := by simp; omega

                have HX := Lib.hid h9
                clear h9 h9le
                go_wp2_with fail
                refine ret_c2 rfl curT rfl (by repeat (first | exact hz | apply Blk.set_ | refine Blk.far ?_ (by simp <;> omega) _ | apply Blk.alloc | apply Blk.drew)) (by rfl) ?_
                exact ⟨by rw [HV.out.1, HV.out.2.1, HV.out.2.2]; rfl, (by have hs_ := hB.size; repeat (first | exact hB | refine Below.setCell ?_ (by simp <;> omega) _ | refine Below.alloc ?_ (by simp <;> omega) _ | refine Below.drew ?_))⟩
              · have d9 : ((j : Int) == 9) = false := by rw [beq_eq_false_iff_ne]; omega
                have HX := Lib.hid h9
                clear h9 h9le
                go_wp2_with fail
                refine ret_c2 rfl curT rfl (by repeat (first | exact hz | apply Blk.set_ | refine Blk.far ?_ (by simp <;> omega) _ | apply Blk.alloc | apply Blk.drew)) (by rfl) ?_
                exact ⟨by rw [HV.out.1, HV.out.2.1, HV.out.2.2]; rfl, (by have hs_ := hB.size; repeat (first | exact hB | refine Below.setCell ?_ (by simp <;> omega) _ | refine Below.alloc ?_ (by simp <;> omega) _ | refine Below.drew ?_))⟩
            · have HU := HD1.out (fun h => hj0 h.1) h2
              have dz : ((z : Int) == 0) = true := by simp; omega
              have dj : decide ((0 : Int) < (j : Int)) = false := by simp; omega
              have HH0 := Lib.hid h0
              clear h0
              have HV := Lib.hid (show rdE l (k : Int) = 0 ∧ rdN l (k : Int) = m + z * 128 ^ j ∧ rdC (some ad) n c l (k : Int) = cur (some ad) n c ((k : Int) + ((j + 1 : Nat) : Int)) from by simp [rdE, rdN, rdC, HU])
              clear HU HF HD1 HM1 HBY
              generalize m + z * 128 ^ j = v at *
              generalize 128 ^ j = P at *
              by_cases h9 : j = 9
              · have d9 : ((j : Int) == 9) = true := by simp; omega
                have dy : decide ((1 : Int) < (z : Int)) = false := by simp; omega
                have HX := Lib.hid h9
                clear h9 h9le
                have HON := Lib.hid (on_any (some ad) n c (k : Int) (j + 1))
                go_wp2_with fail
                refine (HON.out _ (by omega)).mono ?_
                rintro e w1 ⟨rfl, hb1⟩
                have hz1 := hz.below hb1 hz.lt
                have hc0 : w1.cell? ⟨w.heap.size + 1, 0, none⟩ = some (.slice none 0 0) := (hz1.cell 0).trans rfl
                have hc1 : w1.cell? ⟨w.heap.size + 1, 1, none⟩ = some (.int .i64 0) := (hz1.cell 1).trans rfl
                have hcf0 := hz1.frozen 0
                have hcf1 := hz1.frozen 1
                have hB1 := hB.trans (hb1.mono hB.size)
                go_wp2_with fail
                refine ret_c2 rfl curT rfl (by repeat (first | exact hz1 | apply Blk.set_ | refine Blk.far ?_ (by simp <;> omega) _ | apply Blk.alloc | apply Blk.drew)) (by rfl) ?_
                exact ⟨by rw [HV.out.1, HV.out.2.1, HV.out.2.2]; rfl, (by have hs_ := hB1.size; repeat (first | exact hB1 | refine Below.setCell ?_ (by simp <;> omega) _ | refine Below.alloc ?_ (by simp <;> omega) _ | refine Below.drew ?_))⟩
              · have d9 : ((j : Int) == 9) = false := by rw [beq_eq_false_iff_ne]; omega
                have HX := Lib.hid h9
                clear h9 h9le
                have HON := Lib.hid (on_any (some ad) n c (k : Int) (j + 1))
                go_wp2_with fail
                refine (HON.out _ (by omega)).mono ?_
                rintro e w1 ⟨rfl, hb1⟩
                have hz1 := hz.below hb1 hz.lt
                have hc0 : w1.cell? ⟨w.heap.size + 1, 0, none⟩ = some (.slice none 0 0) := (hz1.cell 0).trans rfl
                have hc1 : w1.cell? ⟨w.heap.size + 1, 1, none⟩ = some (.int .i64 0) := (hz1.cell 1).trans rfl
                have hcf0 := hz1.frozen 0
                have hcf1 := hz1.frozen 1
                have hB1 := hB.trans (hb1.mono hB.size)
                go_wp2_with fail
                refine ret_c2 rfl curT rfl (by repeat (first | exact hz1 | apply Blk.set_ | refine Blk.far ?_ (by simp <;> omega) _ | apply Blk.alloc | apply Blk.drew)) (by rfl) ?_
                exact ⟨by rw [HV.out.1, HV.out.2.1, HV.out.2.2]; rfl, (by have hs_ := hB1.size; repeat (first | exact hB1 | refine Below.setCell ?_ (by simp <;> omega) _ | refine Below.alloc ?_ (by simp <;> omega) _ | refine Below.drew ?_))⟩
          · have HU := HD1.out (fun h => h0 h.2) h2
            have dz : ((z : Int) == 0) = false := by rw [beq_eq_false_iff_ne]; omega
            have HV := Lib.hid (show rdE l (k : Int) = 0 ∧ rdN l (k : Int) = m + z * 128 ^ j ∧ rdC (some ad) n c l (k : Int) = cur (some ad) n c ((k : Int) + ((j + 1 : Nat) : Int)) from by simp [rdE, rdN, rdC, HU])
            clear HU HF HD1 HM1 HBY
            generalize m + z * 128 ^ j = v at *
            generalize 128 ^ j = P at *
            by_cases h9 : j = 9
            · have d9 : ((j : Int) == 9) = true := by simp; omega
              have dy : decide ((1 : Int) < (z : Int)) = false := by simp; omega
              have HX := Lib.hid h9
              clear h9 h9le
              have HON := Lib.hid (on_any (some ad) n c (k : Int) (j + 1))
              go_wp2_with fail
              refine (HON.out _ (by omega)).mono ?_
              rintro e w1 ⟨rfl, hb1⟩
              have hz1 := hz.below hb1 hz.lt
              have hc0 : w1.cell? ⟨w.heap.size + 1, 0, none⟩ = some (.slice none 0 0) := (hz1.cell 0).trans rfl
              have hc1 : w1.cell? ⟨w.heap.size + 1, 1, none⟩ = some (.int .i64 0) := (hz1.cell 1).trans rfl
              have hcf0 := hz1.frozen 0
              have hcf1 := hz1.frozen 1
              have hB1 := hB.trans (hb1.mono hB.size)
              go_wp2_with fail
              refine ret_c2 rfl curT rfl (by repeat (first | exact hz1 | apply Blk.set_ | refine Blk.far ?_ (by simp <;> omega) _ | apply Blk.alloc | apply Blk.drew)) (by rfl) ?_
              exact ⟨by rw [HV.out.1, HV.out.2.1, HV.out.2.2]; rfl, (by have hs_ := hB1.size; repeat (first | exact hB1 | refine Below.setCell ?_ (by simp <;> omega) _ | refine Below.alloc ?_ (by simp <;> omega) _ | refine Below.drew ?_))⟩
            · have d9 : ((j : Int) == 9) = false := by rw [beq_eq_false_iff_ne]; omega
              have HX := Lib.hid h9
              clear h9 h9le
              have HON := Lib.hid (on_any (some ad) n c (k : Int) (j + 1))
              go_wp2_with fail
              refine (HON.out _ (by omega)).mono ?_
              rintro e w1 ⟨rfl, hb1⟩
              have hz1 := hz.below hb1 hz.lt
              have hc0 : w1.cell? ⟨w.heap.size + 1, 0, none⟩ = some (.slice none 0 0) := (hz1.cell 0).trans rfl
              have hc1 : w1.cell? ⟨w.heap.size + 1, 1, none⟩ = some (.int .i64 0) := (hz1.cell 1).trans rfl
              have hcf0 := hz1.frozen 0
              have hcf1 := hz1.frozen 1
              have hB1 := hB.trans (hb1.mono hB.size)
              go_wp2_with fail
              refine ret_c2 rfl curT rfl (by repeat (first | exact hz1 | apply Blk.set_ | refine Blk.far ?_ (by simp <;> omega) _ | apply Blk.alloc | apply Blk.drew)) (by rfl) ?_
              exact ⟨by rw [HV.out.1, HV.out.2.1, HV.out.2.2]; rfl, (by have hs_ := hB1.size; repeat (first | exact hB1 | refine Below.setCell ?_ (by simp <;> omega) _ | refine Below.alloc ?_ (by simp <;> omega) _ | refine Below.drew ?_))⟩
        · have HU := HM1.out h2
          have h9 : j < 9 := by omega
          have d9 : ((j : Int) == 9) = false := by rw [beq_eq_false_iff_ne]; omega
          have hby := HBY.out h9
          have HUU := Lib.hid HU
          clear HU HF HD1 HM1 HBY h9le
          have hv := HLT.out
          generalize m + z % 128 * 128 ^ j = v at *
          generalize hP2 : 128 ^ (j + 1) = P2 at *
          have HP2 := Lib.hid hP2
          clear hP2
          generalize 128 ^ j = P at *
          go_wp2_with fail
          go_round
          case rel => exact ⟨j + 1, v, by omega, by omega, by go_num, rfl, by rw [HP2.out], HP2.out ▸ HV2.out, by rw [← Nat.add_assoc]; exact HUU.out⟩
          case measure => simp [intOf]; omega
end Go.Proofs.Ytkhdeoihjnpnaaa
