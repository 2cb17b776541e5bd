/- Contracts and laws of a chapter that its statement of names leans on. Each states its conditions. -/
import Derived.Test.YtldaijkcmnnjpaaCrcTable
import Derived.Deep.RegionHeld3
namespace Go.Proofs.Ytldaijkcmnnjpaa
open Go.RowKit Crc
set_option linter.unusedVariables false
theorem stsf_take {f : Nat → Nat} {x k : Nat} {l : List UInt8} {c : UInt8} (h : l[k]? = some c) : stsf f x (l.take (k + 1)) = stf f (stsf f x (l.take k)) c.toNat := by
  rw [take_succ_of h, stsf_append]; rfl
set_option maxRecDepth 100000 in
theorem steps_any (f : Nat → Nat) (hf : ∀ i, i < 256 → f i < 4294967296) (x0 : Nat) (hx0 : x0 < 4294967296) (A : Option Addr) (n c : Nat) (l : List UInt8) (w : World)
    (hr : Rb w A n l) (hn : n ≤ 140737488351232) :
    Calls Try.prog 52 #[.agg (arr .u32 256 f), .int .u32 (x0 : Int), .slice A n c] w fun e w' => e = .returned (.int .u32 (stsf f x0 l : Nat)) ∧ Below w.heap.size w w' := by
  go_enter Try.func52, Try.ntmps52
  go_wp2
  go_loop [1, 11] (fun x i => ∃ k : Nat, k ≤ n ∧ i = .int .i64 (k : Int) ∧ x = .int .u32 (stsf f x0 (l.take k) : Nat)) (fun _ i => n - (intOf i).toNat)
  case atStart => exact ⟨0, by omega, rfl, by simp [stsf]⟩
  case round =>
    obtain ⟨k, hk, rfl, rfl⟩ := hrel
    have hx := stsf_lt hf (l.take k) hx0
    by_cases hlt : k < n
    · obtain ⟨ad, c, rfl, _, hlc, hcell⟩ := (hr.alloc (Nat.le_refl _) (.cells (arr .u32 256 f) 23)).byte hlt
      have HS := Lib.hid (stsf_take (f := f) (x := x0) hlc)
      have hc : c.toNat < 256 := c.toNat_lt
      clear hlc
      generalize stsf f x0 (l.take k) = x at *
      generalize c.toNat = c at *
      have e1 := idx_u8 x c hc
      have hi : (x ^^^ c) % 256 < 256 := by omega
      have HT := Lib.hid (show stf f x c = (x / 256) ^^^ f ((x ^^^ c) % 256) from rfl)
      generalize (x ^^^ c) % 256 = i at *
      have ht := (Blk.new w 23 (arr .u32 256 f)).arr_cell hi
      have e2 := mix_u32 x (f i) hx (hf i hi)
      go_wp2
      go_round
      case rel => exact ⟨k + 1, by omega, by go_num, by rw [HS.out, HT.out]⟩
      case measure => simp [intOf]; omega
    · obtain rfl : k = n := by omega
      go_wp2
      go_ret
      exact ⟨by rw [List.take_of_length_le (by rw [hr.len8]; exact Nat.le_refl _)]; rfl, (Below.refl _ _).alloc (Nat.le_refl _) _⟩
set_option maxRecDepth 100000 in
theorem check_any (f : Nat → Nat) (b : Bool) (hb : eqn 256 f el = b) (w : World) :
    Calls Try.prog 51 #[.agg (arr .u32 256 f)] w fun e w' => e = .returned (.int .i64 (if b then 0 else 8)) ∧ Below w.heap.size w w' := by
  have hu : Try.prog.underlying 23 = some (.array 256 22) := Try.underlying23
  have hi : (Try.prog.info? 23).map (·.size) = some (arr .u32 256 f).toList.length := by rw [Array.length_toList]; exact tab_sized f
  have hq : ∀ w, (binOp .neq 23 (.agg (arr .u32 256 f)) (.agg (arr .u32 256 el))).run Try.prog w = .ok (.bool (!b)) w := fun w => by
    rw [run_neq_arr w _ _ .u32 256 hu Try.underlying22 u32_size, hb]
  go_enter Try.func51, Try.ntmps51
  go_wp2_with fail
  go_region_held3 (fun w' => w'.rangeAt w.heap.size 0 (arr .u32 256 f).toList ∧ Below w.heap.size w w') (first | exact ⟨(Blk.new w _ _).rangeL, ((Below.refl _ _).alloc (Nat.le_refl _) _).drew⟩ | exact ⟨(((Blk.new w _ _).drew).below hb1 (by simp)).rangeL, (((Below.refl _ _).alloc (Nat.le_refl _) _).drew).trans (hb1.mono (by simp))⟩) ((go_at_call 54; refine (table_any _).mono ?_; rintro e w1 ⟨rfl, hb1⟩))
  all_goals
    obtain ⟨_, hB⟩ := ‹_ ∧ _›
    cases b <;> (go_wp2; go_ret; exact ⟨rfl, hB⟩)

end Go.Proofs.Ytldaijkcmnnjpaa
