/- Contracts and laws of another chapter that this one leans on. Each states its conditions. -/
import Derived.Test.YteaaiacgebikpaaChecked
import Derived.Test.YteaaiacgebikpaaMem
import Derived.Test.YteaaiacgebikpaaSlice
import Derived.Test.YteaaiacgebikpaaArr
import Derived.Test.YteaaiacgebikpaaRegion
import Derived.Test.YteaaiacgebikpaaRet
import Derived.Test.YteaaiacgebikpaaRbb
import Derived.Test.YteaaiacgebikpaaWireVary
namespace Go.Proofs.Yteaaiacgebikpaa
open Go.RowKit Wire
set_option linter.unusedVariables false

theorem wide_any (a : Int) (w : World) : Calls Try.prog 50 #[.int .i64 a] w fun e w' => e = .returned (.int .i64 (if wdB a then 0 else 2)) ∧ w = w' := by
  cases h : wdB a
  · obtain ⟨h1, h2, h4, h8⟩ := wdB_not h
    clear h
    have d1 : decide (a = 1) = false := by simpa using h1
    have d2 : decide (a = 2) = false := by simpa using h2
    have d4 : decide (a = 4) = false := by simpa using h4
    have d8 : decide (a = 8) = false := by simpa using h8
    go_enter Try.func50, Try.ntmps50
    go_wp2_with fail
    go_ret
    exact ⟨rfl, rfl⟩
  · rcases wdB_of h with rfl | rfl | rfl | rfl
    all_goals
      clear h
      go_enter Try.func50, Try.ntmps50
      go_wp2_with fail
      go_ret
      exact ⟨rfl, rfl⟩
set_option maxRecDepth 100000 in
set_option maxHeartbeats 800000 in
theorem little_any (n k : Nat) (hn : n < 18446744073709551616) (hk : k ≤ 1000000) (w : World) :
    Calls Try.prog 51 #[.int .u64 (n : Int), .int .i64 (k : Int)] w fun e w' => ∃ A c, e = .returned (.slice A k c) ∧ w'.ownsRow w.heap.size 5 1 (.slice A k c) k ((ltl k n).map b8) ∧ Below w.heap.size w w' := by
  go_enter Try.func51, Try.ntmps51
  go_wp2_with fail
  go_loopw [0, 5, 6] (fun v s i wr => ∃ (j : Nat) (A : Option Addr) (c : Nat), j ≤ k ∧ i = .int .i64 (j : Int) ∧ v = .int .u64 ((n / 256 ^ j : Nat) : Int) ∧ s = .slice A j c ∧
      wr.ownsRow w.heap.size 5 1 (.slice A j c) j ((ltl j n).map b8) ∧ Below w.heap.size w wr) (fun _ _ i _ => k - (intOf i).toNat)
  case atStart => exact ⟨0, none, 0, by omega, rfl, by simp, rfl, World.ownsRow_nil _ _ _ _, Below.refl _ _⟩
  case round =>
    obtain ⟨j, A, c, hj, rfl, rfl, rfl, hown, hB⟩ := hrel
    have HS := Lib.hid (show n / 256 ^ j / 256 = n / 256 ^ (j + 1) from by rw [Nat.div_div_eq_div_mul, ← Nat.pow_succ])
    have HT := Lib.hid (ltl_snoc j n)
    have hm : n / 256 ^ j < 18446744073709551616 := Nat.lt_of_le_of_lt (Nat.div_le_self _ _) hn
    generalize n / 256 ^ j = m at *
    by_cases hlt : j < k
    · go_wp2_with (at_builtin; go_must (refine wpList_app rfl (.tmp 12) (.tmp 16) _ rfl sl8 w.heap.size _ j ((ltl j n).map b8) rfl (hown.alloc _) _ (some ⟨wr.heap.size, 0, none⟩) 1 1 [.int .u8 ((m % 256 : Nat) : Int)] rfl (reads_one wr _ _) (by simp [Value.oneCell']) (by omega) (by have := hB.size; simp; omega) ?_); intro A2 c2 w2 hown2 hg2 hb2 hc2)
      rw [← b8_ofNat (x := m % 256) (by omega), ← List.map_singleton, ← List.map_append, ← HT.out] at hown2
      go_roundw
      case rel => exact ⟨j + 1, A2, c2, by omega, by go_num, by rw [← HS.out]; go_num, rfl, hown2, (hB.alloc hB.size _).trans hb2⟩
      case measure => simp [intOf]; omega
    · obtain rfl : j = k := by omega
      go_wp2
      go_ret
      exact ⟨A, c, rfl, hown, hB⟩
set_option maxRecDepth 100000 in
set_option maxHeartbeats 800000 in
theorem unlittle_any (A : Option Addr) (n c : Nat) (l : List UInt8) (w : World) (hr : Rb w A n l) (hn : n ≤ 8) :
    Calls Try.prog 44 #[.slice A n c] w fun e w' => e = .returned (.int .u64 (unl l : Nat)) ∧ w = w' := by
  have HL := Lib.hid hr.len8
  have HR := Lib.hid hr
  clear hr
  go_enter Try.func44, Try.ntmps44
  go_wp2_with fail
  go_loop [3, 4] (fun v i => ∃ (j : Nat), j ≤ n ∧ i = .int .i64 ((j : Int) - 1) ∧ v = .int .u64 (unl (l.drop j) : Nat)) (fun _ i => (intOf i + 1).toNat)
  case atStart => exact ⟨n, by omega, rfl, by rw [← HL.out]; simp; rfl⟩
  case round =>
    obtain ⟨j, hj, rfl, rfl⟩ := hrel
    rcases j with _ | j
    · go_wp2
      go_ret
      exact ⟨rfl, rfl⟩
    · obtain ⟨ad, x, rfl, hb, hx, hc⟩ := HR.out.byte (show j < n from by omega)
      have HS := Lib.hid (unl_drop hx)
      have hlt := unl_lt (l.drop (j + 1))
      have hlen : (l.drop (j + 1)).length ≤ 7 := by rw [List.length_drop, HL.out]; omega
      have h7 : unl (l.drop (j + 1)) < 256 ^ 7 := Nat.lt_of_lt_of_le hlt (Nat.pow_le_pow_right (by omega) hlen)
      have hx8 := x.toNat_lt
      rw [show (256 : Nat) ^ 7 = 72057594037927936 from rfl] at h7
      clear hlt hlen hx
      generalize unl (l.drop (j + 1)) = m at *
      generalize x.toNat = y at *
      go_wp2_with fail
      go_round
      case rel => exact ⟨j, by omega, by go_num, by rw [HS.out]; go_num⟩
      case measure => simp [intOf]
end Go.Proofs.Yteaaiacgebikpaa
