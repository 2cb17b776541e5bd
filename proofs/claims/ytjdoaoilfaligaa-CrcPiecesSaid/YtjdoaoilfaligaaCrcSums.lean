/- The walk of CrcSums: it returns true for every index, number, checksum and bytes, and writes nothing that was there. -/
import Derived.Test.YtjdoaoilfaligaaCrcLaw
import Derived.Deep.DeepCutAuto
namespace Go.Proofs.Ytjdoaoilfaligaa
open Go.RowKit Crc
set_option linter.unusedVariables false

/-- Whether bytes are more than the statements consider. -/
def longB (n : Nat) : Bool := decide (700 < n) && decide (n ≤ 200000) || decide (200100 < n)
theorem long_any (A : Option Addr) (n c : Nat) (w : World) :
    Calls Try.prog 9 #[.slice A n c] w fun e w' => e = .returned (.bool (longB n)) ∧ w = w' := by
  by_cases h1 : 700 < n
  · have d1 : decide ((700 : Int) < (n : Int)) = true := by simp; omega
    by_cases h2 : n ≤ 200000
    · have d2 : decide ((n : Int) ≤ 200000) = true := by simp; omega
      have HB := Lib.hid (show longB n = true from by simp [longB, h1, h2])
      go_enter Try.func9, Try.ntmps9
      go_wp2
      go_ret
      exact ⟨by rw [HB.out]; rfl, rfl⟩
    · have d2 : decide ((n : Int) ≤ 200000) = false := by simp; omega
      have HB := Lib.hid (show longB n = decide ((200100 : Int) < (n : Int)) from by simp [longB, h1, h2]; omega)
      go_enter Try.func9, Try.ntmps9
      go_wp2
      go_ret
      exact ⟨by rw [HB.out]; rfl, rfl⟩
  · have d1 : decide ((700 : Int) < (n : Int)) = false := by simp; omega
    have d2 : decide ((200100 : Int) < (n : Int)) = false := by simp; omega
    have HB := Lib.hid (show longB n = false from by simp [longB, h1]; omega)
    go_enter Try.func9, Try.ntmps9
    go_wp2
    go_ret
    exact ⟨by rw [HB.out]; rfl, rfl⟩

set_option maxRecDepth 100000 in
set_option maxHeartbeats 400000 in
theorem crcSums_in (w : World) (i : Int) (hi : -9223372036854775808 ≤ i ∧ i ≤ 9223372036854775807) (y : Nat) (hy : y < 4294967296) (s : Nat) (hs : s < 4294967296)
    (A : Option Addr) (n c : Nat) (l : List UInt8) (hr : Rb w A n l) (hn : longB n = false) :
    Calls Try.prog 3 #[.int .i64 i, .int .u32 (y : Int), .int .u32 (s : Int), .slice A n c] w fun e w' => e = .returned (.bool true) ∧ Below w.heap.size w w' := by
  have HR := Lib.hid hr
  clear hr
  have HN := Lib.hid hn
  clear hn
  go_enter Try.func3, Try.ntmps3
  go_wp2_with (go_at_call 9; refine (long_any _ _ _ _).mono ?_; rintro e w' ⟨rfl, rfl⟩; rw [HN.out])
  go_cut [9, 10] (fun s9 s10 wx => ∃ g : Nat, s9 = .pointer (some ⟨g, 0, none⟩) ∧ Blk wx g 25 (arr .u32 256 (chg i y)) ∧ w.heap.size ≤ g ∧ s10 = .string ⟨l.toArray⟩ ∧ Below w.heap.size w wx)
  case first =>
    have hz := (zero_of_info tab_zero).1
    have H0 := Held.start HR.out
    have hconv : ∀ w', Held w A n l w' → (convert 23 9 (.slice A n c)).run Try.prog w' = .ok (.string ⟨l.toArray⟩) w' := fun w' h => conv_to_str _ _ _ Try.underlying23 Try.underlying5 Try.underlying9 c h.1
    obtain ⟨cs, hcs, hL, hone⟩ := arr_list .u32 256 (chg i y)
    have hI : (Try.prog.info? 25).map (·.size) = some cs.length := by rw [hL]; exact tab_size
    have hC := fun W => Lib.hid (ltable_any i y hy W)
    rw [hcs] at hC
    have hT : ∀ W : World, (W.alloc (.cells (arr .u32 256 fun _ => 0) 25)).there W.heap.size 0 256 := fun W => (Blk.new W _ _).there_of (by rw [arr_size])
    go_region_held3? (Held w A n l)
      (first | (with_reducible exact H0.drew) | (with_reducible exact (H0.alloc _).drew) | (with_reducible exact Held.alloc (by assumption) _) | (with_reducible exact Held.call (by assumption) hb1) | (with_reducible exact Held.cells (by assumption) _ _ (Nat.le_refl _)) | (with_reducible exact Held.cells (by assumption) _ _ (size_drew hb1)))
      ((go_at_call 10; refine (hC _).out.mono ?_; rintro e w1 ⟨rfl, hb1⟩; first | (have hT1 := there_drew (hT w) hb1 (by simp)) | skip))
    all_goals
      have hH := ‹Held _ _ _ _ _›.2
      go_wp2_with fail
      go_meet
    · exact ⟨w1.heap.size, rfl, by rw [hcs]; exact (Blk.new w1 _ _).cells_all cs (by rw [arr_size, hL]), size_drew hb1, rfl, hH⟩
    · exact ⟨w.heap.size, rfl, by rw [hcs]; exact ((Blk.new w 25 (arr .u32 256 fun _ => 0)).below_drew hb1).cells_all cs (by rw [arr_size, hL]), Nat.le_refl _, rfl, hH⟩
  case rest =>
    obtain ⟨g, rfl, hk, hg, rfl, hB⟩ := hcut
    obtain ⟨b, hb⟩ : ∃ b, eqn 256 (chg i y) el = b := ⟨_, rfl⟩
    have HB := Lib.hid hb
    clear hb
    have hn : n ≤ 140737488351232 := by have := HN.out; simp [longB] at this; omega
    go_wp2_with (refine wpList_load_row rfl 25 (.tmp 9) rfl g rfl _ _ (0, 0) _ hk Try.underlying25 rfl (tab_sized _) ?_)
    refine (sum_all _ b HB.out A n c l _ (HR.out.mv hB) hn).mono ?_
    rintro e w2 ⟨rfl, hb2⟩
    have hk2 := hk.below hb2 hk.lt
    have hB2 := hB.trans (hb2.mono hB.size)
    go_wp2_with (refine wpList_load_row rfl 25 (.tmp 9) rfl g rfl _ _ (0, 0) _ hk2 Try.underlying25 rfl (tab_sized _) ?_)
    refine (rsum_all _ b HB.out A n c l _ (HR.out.mv hB2) hn).mono ?_
    rintro e w3 ⟨rfl, hb3⟩
    have hk3 := hk2.below hb3 hk2.lt
    have hB3 := hB2.trans (hb3.mono hB2.size)
    go_wp2_with (refine wpList_load_row rfl 25 (.tmp 9) rfl g rfl _ _ (0, 0) _ hk3 Try.underlying25 rfl (tab_sized _) ?_)
    refine (next_all _ b HB.out s hs A n c l _ (HR.out.mv hB3) hn).mono ?_
    rintro e w4 ⟨rfl, hb4⟩
    have hk4 := hk3.below hb4 hk3.lt
    have hB4 := hB3.trans (hb4.mono hB3.size)
    go_wp2_with (refine wpList_load_row rfl 25 (.tmp 9) rfl g rfl _ _ (0, 0) _ hk4 Try.underlying25 rfl (tab_sized _) ?_)
    refine (rnext_all _ b HB.out s hs A n c l _ (HR.out.mv hB4) hn).mono ?_
    rintro e w5 ⟨rfl, hb5⟩
    have hB5 := hB4.trans (hb5.mono hB4.size)
    go_wp2_with fail
    refine (table_any _).mono ?_
    rintro e w6 ⟨rfl, hb6⟩
    have hB6 := hB5.trans (hb6.mono hB5.size)
    go_wp2_with fail
    refine (rtable_any _).mono ?_
    rintro e w7 ⟨rfl, hb7⟩
    have hB7 := hB6.trans (hb7.mono hB6.size)
    have heq : ∀ W, (binOp .eql 25 (.agg (arr .u32 256 el)) (.agg (arr .u32 256 el))).run Try.prog W = .ok (.bool true) W := fun W => by
      rw [run_eql_arr W _ _ .u32 256 Try.underlying25 Try.underlying22 u32_size, eqn_refl]
    generalize nxtV b n 0 l = a1 at *
    generalize nxtE b n = a2 at *
    generalize nxtV b n s l = a3 at *
    go_wp2_with (refine wpList_to_str rfl 23 9 5 (.tmp 76) rfl Try.underlying23 Try.underlying5 Try.underlying9 rfl (HR.out.mv hB7) ?_)
    go_ret
    exact ⟨rfl, hB7⟩

theorem crcSums_walk (w : World) (i : Int) (hi : -9223372036854775808 ≤ i ∧ i ≤ 9223372036854775807) (y : Nat) (hy : y < 4294967296) (s : Nat) (hs : s < 4294967296)
    (A : Option Addr) (n c : Nat) (l : List UInt8) (hr : Rb w A n l) (hc : n ≤ c ∧ c ≤ 9223372036854775807) :
    Calls Try.prog 3 #[.int .i64 i, .int .u32 (y : Int), .int .u32 (s : Int), .slice A n c] w fun e w' => e = .returned (.bool true) ∧ Below w.heap.size w w' := by
  cases hn : longB n
  · exact crcSums_in w i hi y hy s hs A n c l hr hn
  · have HN := Lib.hid hn
    clear hn hr
    go_enter Try.func3, Try.ntmps3
    go_wp2_with (go_at_call 9; refine (long_any _ _ _ _).mono ?_; rintro e w' ⟨rfl, rfl⟩; rw [HN.out])
    go_ret
    exact ⟨rfl, Below.refl _ _⟩
end Go.Proofs.Ytjdoaoilfaligaa
