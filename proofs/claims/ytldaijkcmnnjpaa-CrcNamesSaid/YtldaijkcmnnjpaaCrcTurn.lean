/- Contracts and laws of a chapter that its statement of names leans on. Each states its conditions. -/
import Derived.Test.YtldaijkcmnnjpaaChecked
import Derived.Test.YtldaijkcmnnjpaaCrcPlain
import Derived.WalkKit
import Derived.WalkSpells
import Derived.WalkLawsBesides
import Derived.Outline
import Derived.Lib.Hide
import Derived.Deep.LoopGhost
import Derived.Deep.DeepMust
import Derived.Deep.DeepFit
namespace Go.Proofs.Ytldaijkcmnnjpaa
open Go.RowKit Crc
set_option linter.unusedVariables false
theorem u32_and1 (x : Nat) (hx : x < 4294967296) : bits .and .u32 (x : Int) 1 = ((x % 2 : Nat) : Int) := by
  have := u32_and_nat x 1 hx (by omega)
  rw [nat_mask1] at this
  exact this
theorem u32_xorc (x c : Nat) (hx : x < 4294967296) (hc : c < 4294967296) : bits .xor .u32 (x : Int) (c : Int) = ((x ^^^ c : Nat) : Int) := u32_xor_nat x c hx hc
theorem idx_u8 (x c : Nat) (hc : c < 256) : bits .xor .u8 ((x : Int) % 256) (c : Int) = (((x ^^^ c) % 256 : Nat) : Int) := by
  have h := u8_xor_nat (x % 256) c (by omega) hc
  rw [show ((x % 256 : Nat) : Int) = (x : Int) % 256 from by omega] at h
  rw [h, xor_mod256, Nat.mod_eq_of_lt hc]
theorem mix_u32 (x y : Nat) (hx : x < 4294967296) (hy : y < 4294967296) : bits .xor .u32 ((x : Int) / 256) (y : Int) = ((x / 256 ^^^ y : Nat) : Int) := by
  have h := u32_xor_nat (x / 256) y (by omega) hy
  rwa [show ((x / 256 : Nat) : Int) = (x : Int) / 256 from by omega] at h
theorem turn_any (x : Nat) (hx : x < 4294967296) (w : World) :
    Calls Try.prog 97 #[.int .u32 (x : Int)] w fun e w' => e = .returned (.int .u32 (tn x : Nat)) ∧ w = w' := by
  have h1 := u32_and1 x hx
  have h2 : bits .xor .u32 ((x : Int) / 2) 3988292384 = ((x / 2 ^^^ 3988292384 : Nat) : Int) := u32_xorc (x / 2) 3988292384 (by omega) (by omega)
  by_cases hp : x % 2 = 0
  · have ht : tn x = x / 2 := by unfold tn; rw [if_pos hp]
    go_enter Try.func97, Try.ntmps97
    go_wp2
    go_ret
    exact ⟨by rw [ht]; rfl, rfl⟩
  · have ht : tn x = x / 2 ^^^ 3988292384 := by unfold tn; rw [if_neg hp]
    go_enter Try.func97, Try.ntmps97
    go_wp2
    go_ret
    exact ⟨by rw [ht]; rfl, rfl⟩
theorem element_any (x0 : Nat) (hx0 : x0 < 4294967296) (w : World) :
    Calls Try.prog 50 #[.int .u32 (x0 : Int)] w fun e w' => e = .returned (.int .u32 (el x0 : Nat)) ∧ w = w' := by
  go_enter Try.func50, Try.ntmps50
  go_wp2
  go_loop [0, 3] (fun x i => ∃ k : Nat, k ≤ 8 ∧ i = .int .i64 (k : Int) ∧ x = .int .u32 (tns k x0 : Nat)) (fun _ i => 8 - (intOf i).toNat)
  case atStart => exact ⟨0, by omega, rfl, rfl⟩
  case round =>
    obtain ⟨k, hk, rfl, rfl⟩ := hrel
    have hx := tns_lt k hx0
    have HS := Lib.hid (show tns (k + 1) x0 = tn (tns k x0) from rfl)
    by_cases hlt : k < 8
    · generalize tns k x0 = x at *
      have h2 : bits .xor .u32 ((x : Int) / 2) 3988292384 = ((x / 2 ^^^ 3988292384 : Nat) : Int) := u32_xorc (x / 2) 3988292384 (by omega) (by omega)
      by_cases hp : x % 2 = 0
      · have ht := Lib.hid (show tn x = x / 2 from by unfold tn; rw [if_pos hp])
        go_wp2
        go_round
        case rel => exact ⟨k + 1, by omega, by go_num, by rw [HS.out, ht.out]; rfl⟩
        case measure => simp [intOf]; omega
      · have ht := Lib.hid (show tn x = x / 2 ^^^ 3988292384 from by unfold tn; rw [if_neg hp])
        go_wp2
        go_round
        case rel => exact ⟨k + 1, by omega, by go_num, by rw [HS.out, ht.out]⟩
        case measure => simp [intOf]; omega
    · obtain rfl : k = 8 := by omega
      go_wp2
      go_ret
      exact ⟨rfl, rfl⟩

end Go.Proofs.Ytldaijkcmnnjpaa
