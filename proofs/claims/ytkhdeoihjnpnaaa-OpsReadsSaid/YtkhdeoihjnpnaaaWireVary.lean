/- Contracts and laws of another chapter that this one leans on. Each states its conditions. -/
import Derived.Test.YtkhdeoihjnpnaaaChecked
import Derived.Test.YtkhdeoihjnpnaaaMem
import Derived.Test.YtkhdeoihjnpnaaaSlice
import Derived.Test.YtkhdeoihjnpnaaaArr
import Derived.Test.YtkhdeoihjnpnaaaRegion
import Derived.Test.YtkhdeoihjnpnaaaRet
import Derived.Test.YtkhdeoihjnpnaaaRbb
import Derived.Deep.RegionHeld3
import Derived.Deep.DeepCutAuto
import Derived.Deep.DeepMust
import Derived.Test.YtkhdeoihjnpnaaaWirePlain
namespace Go.Proofs.Ytkhdeoihjnpnaaa
open Go.RowKit Wire
set_option linter.unusedVariables false

theorem sl8 : IsSl Try.prog 37 5 (.int .u8 0) 1 1 := ⟨Try.underlying37, by kernel_rfl, rfl, by omega, by omega⟩
theorem b8_ofNat {x : Nat} (h : x < 256) : b8 (UInt8.ofNat x) = .int .u8 (x : Int) := by
  unfold b8; rw [UInt8.toNat_ofNat']; congr 1; omega
/-- The closure of Vary: it appends a byte to the captured slice. -/
theorem put_any (B g : Nat) (A : Option Addr) (n c : Nat) (l : List UInt8) (x : Nat) (hx : x < 256) (w : World) (hk : Blk w g 37 #[.slice A n c]) (hown : w.ownsRow B 5 1 (.slice A n c) n (l.map b8)) (hB : B ≤ g) (hn : n ≤ 1000000) :
    Calls Try.prog 45 #[.int .u8 (x : Int), .pointer (some ⟨g, 0, none⟩)] w fun e w' => e = .returned (.tuple #[]) ∧
      ∃ A' c', Blk w' g 37 #[.slice A' (n + 1) c'] ∧ w'.ownsRow B 5 1 (.slice A' (n + 1) c') (n + 1) ((l ++ [UInt8.ofNat x]).map b8) ∧ Below B w w' := by
  have hc := hk.cell 0
  have hlt := hk.lt
  have hne := own_blk_ne hown hk (by decide : (5 : Nat) ≠ 37)
  have HE := Lib.hid hne
  clear hne
  simp only [List.getElem?_toArray, List.getElem?_cons_zero] at hc
  go_enter Try.func45, Try.ntmps45
  go_wp2_with (at_builtin; refine wpList_app rfl (.tmp 3) (.tmp 5) _ rfl sl8 B _ n (l.map b8) rfl (hown.alloc _) _ (some ⟨w.heap.size, 0, none⟩) 1 1 [.int .u8 (x : Int)] rfl (reads_one w _ _) (by simp [Value.oneCell']) (by omega) (by simp; omega) ?_; intro A2 c2 w2 hown2 hg2 hb2 hc2; go_must (have hk2 := (hk.alloc (.cells #[.int .u8 (x : Int)] 5)).grown hg2 (fun h => HE.out h.symm)); have hc2 : w2.cell? ⟨g, 0, none⟩ = some (.slice A n c) := (hk2.cell 0).trans rfl; have hf2 := hk2.frozen 0)
  have hk3 := hk2.set_ 0 (.slice A2 (n + 1) c2)
  have hown3 := ownsRow_setCell_other hown2 (a := ⟨g, 0, none⟩) (own_blk_ne hown2 hk2 (by decide)) (.slice A2 (n + 1) c2)
  go_end0
  exact ⟨rfl, A2, c2, by simpa using hk3, by rw [List.map_append, List.map_cons, b8_ofNat hx]; exact hown3, (((Below.refl B w).alloc (by omega) _).trans hb2).setCell hB _⟩
theorem vry_step (n k : Nat) (out : List UInt8) (m : Nat) (h : out ++ vryF (9 - k) m = vry n) (hk : k < 9) (hm : ¬ m < 128) : (out ++ [UInt8.ofNat (m % 128 + 128)]) ++ vryF (9 - (k + 1)) (m / 128) = vry n := by
  rw [← h, show 9 - k = (9 - (k + 1)) + 1 from by omega, vryF_more hm]
  simp
theorem u64_or128 (m : Nat) : bits .or .u8 ((m : Int) % 256) 128 = ((m % 128 + 128 : Nat) : Int) := by
  have h := u8_or_nat (m % 256) 128 (by omega) (by omega)
  have e : (m % 256) ||| 128 = m % 128 + 128 := by
    have h1 : (m % 256) ||| 128 = (m % 128) ||| 128 := by
      apply Nat.eq_of_testBit_eq
      intro i
      rw [Nat.testBit_or, Nat.testBit_or, show (256 : Nat) = 2 ^ 8 from rfl, show (128 : Nat) = 2 ^ 7 from rfl, Nat.testBit_mod_two_pow, Nat.testBit_mod_two_pow, Nat.testBit_two_pow]
      by_cases h7 : i = 7
      · subst h7; simp
      · by_cases h8 : i < 7
        · simp [h8, show i < 8 from by omega]
        · simp [show ¬ i < 8 from by omega, h8, show ¬ 7 = i from fun e => h7 e.symm]
    rw [h1]
    exact nat_join 7 128 (m % 128) (by decide) (by omega) |> fun h => by rw [Nat.or_comm, h, Nat.add_comm]
  rw [e, show ((m % 256 : Nat) : Int) = (m : Int) % 256 from by omega] at h
  exact h
theorem shrink {m k : Nat} (hk : k < 9) (h : m < 2 ^ (64 - 7 * k)) : m / 128 < 2 ^ (64 - 7 * (k + 1)) := by
  rw [show 64 - 7 * k = 7 + (64 - 7 * (k + 1)) from by omega, Nat.pow_add] at h
  exact Nat.div_lt_of_lt_mul h
theorem small64 {m k : Nat} (h : m < 2 ^ (64 - 7 * k)) : m < 18446744073709551616 :=
  Nat.lt_of_lt_of_le h (show 2 ^ (64 - 7 * k) ≤ 2 ^ 64 from Nat.pow_le_pow_right (by omega) (by omega))
theorem less9 {m k : Nat} (hk : k ≤ 9) (h : m < 2 ^ (64 - 7 * k)) (hm : ¬ m < 128) : k < 9 := by
  rcases Nat.lt_or_ge k 9 with h1 | h1
  · exact h1
  · obtain rfl : k = 9 := by omega
    have h2 : m < 2 := h
    omega
set_option maxRecDepth 100000 in
set_option maxHeartbeats 800000 in
theorem vary_any (n : Nat) (hn : n < 18446744073709551616) (w : World) :
    Calls Try.prog 33 #[.int .u64 (n : Int)] w fun e w' => ∃ A c, e = .returned (.slice A (vry n).length c) ∧ w'.ownsRow w.heap.size 5 1 (.slice A (vry n).length c) (vry n).length ((vry n).map b8) ∧ Below w.heap.size w w' := by
  go_enter Try.func33, Try.ntmps33
  go_wp2_with fail
  go_loopw [0] (fun v wr => ∃ (k m : Nat) (out : List UInt8) (A : Option Addr) (c : Nat), k ≤ 9 ∧ v = .int .u64 (m : Int) ∧ m < 2 ^ (64 - 7 * k) ∧ out ++ vryF (9 - k) m = vry n ∧ out.length = k ∧ Blk wr w.heap.size 37 #[.slice A k c] ∧
      wr.ownsRow w.heap.size 5 1 (.slice A k c) k (out.map b8) ∧ Below w.heap.size w wr) (fun v _ => (intOf v).toNat)
  case atStart => exact ⟨0, n, [], none, 0, by omega, rfl, hn, rfl, rfl, Blk.new _ _ _, World.ownsRow_nil _ _ _ _, (Below.refl _ _).alloc (Nat.le_refl _) _⟩
  case round =>
    obtain ⟨k, m, out, A, c, hk, rfl, hm, hout, hlen, hb, hown, hB⟩ := hrel
    have HO := Lib.hid hout
    have HL := Lib.hid hlen
    clear hout hlen
    have HM := Lib.hid hm
    have hm64 : m < 18446744073709551616 := small64 hm
    clear hm
    by_cases h128 : m < 128
    · have HV := Lib.hid (show out ++ [UInt8.ofNat m] = vry n from by rw [← HO.out, vryF_small h128])
      go_wp2_with fail
      refine (put_any w.heap.size w.heap.size A k c out m (by omega) wr hb hown (Nat.le_refl _) (by omega)).mono ?_
      rintro e w2 ⟨rfl, A2, c2, hb2, hown2, hB2⟩
      have hc2 : w2.cell? ⟨w.heap.size, 0, none⟩ = some (.slice A2 (k + 1) c2) := (hb2.cell 0).trans rfl
      go_wp2
      go_ret
      have hlen : (vry n).length = k + 1 := by rw [← HV.out, List.length_append, HL.out]; rfl
      rw [hlen]
      rw [HV.out] at hown2
      exact ⟨A2, c2, rfl, hown2, hB.trans hB2⟩
    · have hk9 := less9 hk HM.out h128
      have HS := Lib.hid (vry_step n k out m HO.out hk9 h128)
      have ho := u64_or128 m
      go_wp2_with fail
      rw [show ((m : Int) % 128 + 128) = ((m % 128 + 128 : Nat) : Int) from by omega]
      refine (put_any w.heap.size w.heap.size A k c out (m % 128 + 128) (by omega) wr hb hown (Nat.le_refl _) (by omega)).mono ?_
      rintro e w2 ⟨rfl, A2, c2, hb2, hown2, hB2⟩
      go_wp2_with fail
      go_roundw
      case rel => exact ⟨k + 1, m / 128, _, A2, c2, by omega, by go_num, shrink hk9 HM.out, HS.out, by simp [HL.out], hb2, hown2, hB.trans hB2⟩
      case measure => simp [intOf]; omega
end Go.Proofs.Ytkhdeoihjnpnaaa
