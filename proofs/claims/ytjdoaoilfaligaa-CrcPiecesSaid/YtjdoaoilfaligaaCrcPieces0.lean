/- The contracts of crc.Pieces and of the reference's Great and Whole. For every list of pieces. -/
import Derived.Test.YtjdoaoilfaligaaCrcSums
import Derived.Test.YtjdoaoilfaligaaRbb
import Derived.Test.YtjdoaoilfaligaaSlice
namespace Go.Proofs.Ytjdoaoilfaligaa
open Go.RowKit Crc
set_option linter.unusedVariables false

def greatB (LL : List (List UInt8)) : Bool := decide (100 < LL.length) || LL.any fun li => longB li.length

theorem great_any (A : Option Addr) (n c : Nat) (LL : List (List UInt8)) (w : World) (hr : Rbb w A n LL) (hn : n ≤ 9223372036854775807) :
    Calls Try.prog 19 #[.slice A n c] w fun e w' => e = .returned (.bool (greatB LL)) ∧ w = w' := by
  have HR := Lib.hid hr
  have HL := Lib.hid hr.1
  clear hr
  by_cases h100 : 100 < n
  · have HB := Lib.hid (show greatB LL = true from by simp [greatB, HL.out, h100])
    go_enter Try.func19, Try.ntmps19
    go_wp2
    go_ret
    exact ⟨by rw [HB.out]; rfl, rfl⟩
  · go_enter Try.func19, Try.ntmps19
    go_wp2
    go_loop [3] (fun i => ∃ k : Nat, k ≤ n ∧ i = .int .i64 (k : Int) ∧ ((LL.take k).any fun li => longB li.length) = false) (fun i => n - (intOf i).toNat)
    case atStart => exact ⟨0, by omega, rfl, by simp⟩
    case round =>
      obtain ⟨k, hk, rfl, hany⟩ := hrel
      have HA := Lib.hid hany
      clear hany
      by_cases hlt : k < n
      · obtain ⟨ad, Ai, ci, li, rfl, _, hli, hc, hci, hri⟩ := HR.out.at_ hlt
        have HLI := Lib.hid hli
        have HRI := Lib.hid hri
        clear hli hri
        cases hlong : longB li.length
        · have HLO := Lib.hid hlong
          clear hlong
          go_wp2_with (go_at_call 9; refine (long_any _ _ _ _).mono ?_; rintro e w' ⟨rfl, rfl⟩; rw [HLO.out])
          go_round
          case rel => exact ⟨k + 1, by omega, by go_num, by rw [take_succ_of HLI.out, List.any_append, HA.out]; simp [HLO.out]⟩
          case measure => simp [intOf]; omega
        · have HLO := Lib.hid hlong
          clear hlong
          have HB := Lib.hid (show greatB LL = true from by
            unfold greatB
            rw [Bool.or_eq_true, List.any_eq_true]
            exact .inr ⟨li, List.mem_of_getElem? HLI.out, HLO.out⟩)
          go_wp2_with (go_at_call 9; refine (long_any _ _ _ _).mono ?_; rintro e w' ⟨rfl, rfl⟩; rw [HLO.out])
          go_ret
          exact ⟨by rw [HB.out]; rfl, rfl⟩
      · obtain rfl : k = n := by omega
        have HB := Lib.hid (show greatB LL = false from by
          unfold greatB
          have := HA.out
          rw [List.take_of_length_le (by rw [HL.out]; exact Nat.le_refl _)] at this
          rw [this, HL.out]; simp; omega)
        go_wp2
        go_ret
        exact ⟨by rw [HB.out]; rfl, rfl⟩

theorem sl8 : IsSl Try.prog 23 5 (.int .u8 0) 1 1 := ⟨Try.underlying23, by kernel_rfl, rfl, by omega, by omega⟩

set_option maxHeartbeats 800000 in
theorem whole_any (A : Option Addr) (n c : Nat) (LL : List (List UInt8)) (w : World) (hr : Rbb w A n LL) (hn : LL.flatten.length ≤ 140737488351232) (hnn : n ≤ 9223372036854775807) :
    Calls Try.prog 20 #[.slice A n c] w fun e w' => ∃ A' c', e = .returned (.slice A' LL.flatten.length c') ∧ Rb w' A' LL.flatten.length LL.flatten ∧ Below w.heap.size w w' := by
  have HR := Lib.hid hr
  have HL := Lib.hid hr.1
  clear hr
  go_enter Try.func20, Try.ntmps20
  go_wp2
  go_loopw [3, 4] (fun v i wr => ∃ (k : Nat) (A' : Option Addr) (m c' : Nat) (fl : List UInt8), k ≤ n ∧ i = .int .i64 (k : Int) ∧ v = .slice A' m c' ∧ fl = (LL.take k).flatten ∧ wr.ownsRow w.heap.size 5 1 (.slice A' m c') m (fl.map b8) ∧ Below w.heap.size w wr)
    (fun _ i _ => n - (intOf i).toNat)
  case atStart => exact ⟨0, _, _, _, [], by omega, rfl, rfl, by simp, World.ownsRow_nil _ _ _ _, Below.refl _ _⟩
  case round =>
    obtain ⟨k, A', m, c', fl, hk, rfl, rfl, hfl, hown, hB⟩ := hrel
    have HF := Lib.hid hfl
    have hm : fl.length = m := by simpa using hown.1
    have hle : m ≤ LL.flatten.length := by rw [← hm, HF.out]; exact flat_take_le LL k
    have HM := Lib.hid hm
    clear hfl hm
    by_cases hlt : k < n
    · obtain ⟨ad, Ai, ci, li, rfl, _, hli, hc, hci, hri⟩ := (HR.out.mv hB).at_ hlt
      have hflat := flat_take hli
      have hle2 : m + li.length ≤ LL.flatten.length := by
        have := flat_take_le LL (k + 1)
        rw [hflat, List.length_append, ← HF.out, HM.out] at this
        exact this
      have HFL := Lib.hid hflat
      have HRI := Lib.hid hri
      clear hli hri hflat
      generalize li.length = q at *
      go_wp2_with (at_builtin; refine wpList_app rfl (.tmp 11) (.tmp 15) _ rfl sl8 w.heap.size _ m (fl.map b8) rfl hown _ Ai q ci _ rfl HRI.out (b8_one li) (by omega) hB.size ?_; intro A2 c2 w2 hown2 hg2 hb2 hc2)
      have hB2 := hB.trans hb2
      go_roundw
      case rel => exact ⟨k + 1, A2, _, _, fl ++ li, by omega, by go_num, rfl, by rw [HFL.out, HF.out], by rw [List.map_append]; exact hown2, hB2⟩
      case measure => simp [intOf]; omega
    · obtain rfl : k = n := by omega
      have hfin : fl = LL.flatten := by rw [HF.out, List.take_of_length_le (by rw [HL.out]; exact Nat.le_refl _)]
      subst hfin
      go_wp2
      go_ret
      have hR := own_reads hown
      rw [HM.out]
      exact ⟨A', c', rfl, hR, hB⟩
end Go.Proofs.Ytjdoaoilfaligaa
