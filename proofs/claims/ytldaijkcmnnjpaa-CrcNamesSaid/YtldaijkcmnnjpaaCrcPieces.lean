/- Contracts and laws of a chapter that its statement of names leans on. Each states its conditions. -/
import Derived.Test.YtldaijkcmnnjpaaCrcLaw
import Derived.Deep.DeepCutAuto
import Derived.Test.YtldaijkcmnnjpaaRbb
import Derived.Test.YtldaijkcmnnjpaaSlice
namespace Go.Proofs.Ytldaijkcmnnjpaa
open Go.RowKit Crc
set_option linter.unusedVariables false
/-- What Pieces returns: the checksum, the error. -/
def pcsV (LL : List (List UInt8)) : Nat := if LL.length ≤ 64 ∧ LL.flatten.length ≤ 200000 then nxt 0 LL.flatten else 0
def pcsE (LL : List (List UInt8)) : Int := if LL.length ≤ 64 ∧ LL.flatten.length ≤ 200000 then 0 else 4
set_option maxRecDepth 100000 in
set_option maxHeartbeats 1600000 in
theorem pieces_any (A : Option Addr) (n c : Nat) (LL : List (List UInt8)) (w : World) (hr : Rbb w A n LL) (hn : n ≤ 9223372036854775807) :
    Calls Try.prog 12 #[.agg (arr .u32 256 el), .slice A n c] w fun e w' => e = .returned (.tuple #[.int .u32 (pcsV LL : Nat), .int .i64 (pcsE LL)]) ∧ Below w.heap.size w w' := by
  have HR := Lib.hid hr
  have HL := Lib.hid hr.1
  clear hr
  have hB0 := (Below.refl w.heap.size w).alloc (Nat.le_refl _) (.cells (arr .u32 256 el) 23)
  by_cases h64 : n ≤ 64
  · go_enter Try.func12, Try.ntmps12
    go_wp2_with (refine wpList_load_blk rfl 23 _ rfl w.heap.size rfl (Blk.new w _ _) Try.underlying23 rfl (tab_sized _) ?_)
    refine (check_ok el (eqn_refl _ _) _).mono ?_
    rintro e w1 ⟨rfl, hb1⟩
    have hB1 := hB0.trans (hb1.mono hB0.size)
    have hk1 := (Blk.new w 23 (arr .u32 256 el)).below hb1 (by simp)
    clear hb1
    go_wp2_with fail
    go_loopw [7, 8, 21] (fun x y i wr => ∃ (k m : Nat), k ≤ n ∧ i = .int .i64 (k : Int) ∧ m = (LL.take k).flatten.length ∧ m ≤ 200000 ∧ y = .int .i64 (200000 - (m : Int)) ∧ x = .int .u32 (sts (cpl 0) (LL.take k).flatten : Nat) ∧
        Below w.heap.size w wr ∧ Blk wr w.heap.size 23 (arr .u32 256 el)) (fun _ _ i _ => n - (intOf i).toNat)
    case atStart => exact ⟨0, 0, by omega, rfl, by simp, by omega, rfl, by simp; rfl, hB1, hk1⟩
    case round =>
      obtain ⟨k, m, hk, rfl, hm, hm2, rfl, rfl, hB, hkr⟩ := hrel
      have HM := Lib.hid hm
      clear hm
      by_cases hlt : k < n
      · obtain ⟨ad, Ai, ci, li, rfl, _, hli, hc, hci, hri⟩ := (HR.out.mv hB).at_ hlt
        have hflat := flat_take hli
        have hle := flat_take_le LL (k + 1)
        rw [hflat, List.length_append, ← HM.out] at hle
        have HFL := Lib.hid hflat
        have HRI := Lib.hid hri
        clear hli hri hflat
        have hx := sts_lt (LL.take k).flatten (cpl_lt 0)
        have HX := Lib.hid (show sts (cpl 0) ((LL.take k).flatten ++ li) = stsf el (sts (cpl 0) (LL.take k).flatten) li from sts_append _ _ _)
        by_cases hfit : li.length ≤ 200000 - m
        · have HST := fun wq (hq : Rb wq Ai li.length li) => Lib.hid (steps_any el (fun i h => el_lt (by omega)) (sts (cpl 0) (LL.take k).flatten) hx Ai li.length ci li wq hq (by omega))
          have HRB := fun wq (hb : Below wr.heap.size wr wq) => (HRI.out.mv hb)
          obtain ⟨q, hq⟩ : ∃ q, q = li.length := ⟨_, rfl⟩
          rw [← hq] at hc hci hle hfit HST
          have HQQ := Lib.hid hq
          clear hq
          go_wp2_with (refine wpList_load_blk rfl 23 _ rfl w.heap.size rfl hkr Try.underlying23 rfl (tab_sized _) ?_)
          refine ((HST wr (by rw [HQQ.out]; exact HRI.out)).out).mono ?_
          rintro e w2 ⟨rfl, hb2⟩
          go_wp2_with fail
          go_roundw
          case rel => exact ⟨k + 1, m + q, by omega, by go_num, by rw [HFL.out, List.length_append, ← HM.out, HQQ.out], by omega, by go_num, by rw [HFL.out, HX.out], hB.trans (hb2.mono hB.size), hkr.below hb2 hkr.lt⟩
          case measure => simp [intOf]; omega
        · have HV := Lib.hid (show pcsV LL = 0 from if_neg (by omega))
          have HE := Lib.hid (show pcsE LL = 4 from if_neg (by omega))
          clear HX HRI
          generalize li.length = q at *
          go_wp2
          go_ret2
          exact ⟨by rw [HV.out, HE.out]; rfl, hB⟩
      · obtain rfl : k = n := by omega
        have hall : (LL.take k).flatten = LL.flatten := by rw [List.take_of_length_le (by rw [HL.out]; exact Nat.le_refl _)]
        have hm3 := HM.out
        rw [hall] at hm3 ⊢
        have HV := Lib.hid (show pcsV LL = nxt 0 LL.flatten from if_pos ⟨by rw [HL.out]; exact h64, by omega⟩)
        have HE := Lib.hid (show pcsE LL = 0 from if_pos ⟨by rw [HL.out]; exact h64, by omega⟩)
        clear hm3
        have N1 := not_u32 (sts (cpl 0) LL.flatten) (sts_lt _ (cpl_lt 0))
        go_wp2
        go_ret2
        exact ⟨by rw [HV.out, HE.out]; rfl, hB⟩
  · have HV := Lib.hid (show pcsV LL = 0 from if_neg (by rw [HL.out]; omega))
    have HE := Lib.hid (show pcsE LL = 4 from if_neg (by rw [HL.out]; omega))
    go_enter Try.func12, Try.ntmps12
    go_wp2_with (refine wpList_load_blk rfl 23 _ rfl w.heap.size rfl (Blk.new w _ _) Try.underlying23 rfl (tab_sized _) ?_)
    refine (check_ok el (eqn_refl _ _) _).mono ?_
    rintro e w1 ⟨rfl, hb1⟩
    go_wp2
    go_ret2
    exact ⟨by rw [HV.out, HE.out]; rfl, hB0.trans (hb1.mono hB0.size)⟩

end Go.Proofs.Ytldaijkcmnnjpaa
