/- Contracts and laws of a chapter that its statement of names leans on. Each states its conditions. -/
import Derived.Test.YtldaijkcmnnjpaaCrcTurn
import Derived.Test.YtldaijkcmnnjpaaArr
namespace Go.Proofs.Ytldaijkcmnnjpaa
open Go.RowKit Crc
set_option linter.unusedVariables false
theorem tab_size : (Try.prog.info? 23).map (·.size) = some 256 := by kernel_rfl
theorem tab_zero : (Try.prog.info? 23).map (fun i => (i.zero, i.size)) = some (some (.agg (arr .u32 256 fun _ => 0)), 256) := by kernel_rfl
theorem tab_sized (f : Nat → Nat) : (Try.prog.info? 23).map (·.size) = some (arr .u32 256 f).size := by rw [arr_size]; exact tab_size
theorem u32_size (w : World) : (sizeOf 22).run Try.prog w = .ok 1 w := by kernel_rfl
/-- The table's first elements, 0 behind them. -/
def till (k : Nat) (j : Nat) : Nat := if j < k then el j else 0
theorem till_zero : arr .u32 256 (till 0) = arr .u32 256 (fun _ => 0) := arr_congr fun i _ => by simp [till]
theorem till_all : arr .u32 256 (till 256) = arr .u32 256 el := arr_congr fun i h => by simp [till, h]
theorem till_set (k : Nat) : (arr .u32 256 (till k)).setIfInBounds k (.int .u32 (el k : Int)) = arr .u32 256 (till (k + 1)) := by
  rw [arr_set]
  refine arr_congr fun i h => ?_
  unfold till
  by_cases e : i = k
  · subst e; simp
  · rw [if_neg e]
    by_cases h2 : i < k
    · rw [if_pos h2, if_pos (by omega)]
    · rw [if_neg h2, if_neg (by omega)]
set_option maxRecDepth 100000 in
theorem rtable_any (w : World) :
    Calls Try.prog 8 #[] w fun e w' => e = .returned (.agg (arr .u32 256 el)) ∧ Below w.heap.size w w' := by
  have hz := (zero_of_info tab_zero).1
  go_enter Try.func8, Try.ntmps8
  go_wp2_with (with_reducible refine wpList_alloc_big rfl 23 rfl _ hz ?_)
  clear hz
  go_loopw [2] (fun i wr => ∃ k : Nat, k ≤ 256 ∧ i = .int .i64 (k : Int) ∧ Blk wr w.heap.size 23 (arr .u32 256 fun _ => 0) ∧ Blk wr (w.heap.size + 1) 23 (arr .u32 256 (till k)) ∧ Below w.heap.size w wr)
    (fun i _ => 256 - (intOf i).toNat)
  case atStart =>
    refine ⟨0, by omega, rfl, (Blk.new w _ _).alloc _, ?_, ((Below.refl _ _).alloc (Nat.le_refl _) _).alloc (by simp) _⟩
    rw [till_zero]
    simpa using Blk.new (w.alloc (.cells (arr .u32 256 fun _ => 0) 23)) 23 (arr .u32 256 fun _ => 0)
  case round =>
    obtain ⟨k, hk, rfl, h0, h1, hb⟩ := hrel
    by_cases hlt : k < 256
    · have hc := h1.arr_cell hlt
      have hf := h1.frozen k
      go_wp2_with (go_at_call 50; refine (element_any k (by omega) _).mono ?_; rintro e w' ⟨rfl, rfl⟩)
      go_roundw
      case rel => exact ⟨k + 1, by omega, by go_num, h0.far (by simp) _, by rw [← till_set]; exact h1.set_ _ _, hb.setCell (by simp) _⟩
      case measure => simp [intOf]; omega
    · obtain rfl : k = 256 := by omega
      rw [till_all] at h1
      go_wp2_with (first
        | (refine wpList_load_row rfl 23 _ rfl (w.heap.size + 1) rfl _ _ (0, 0) _ h1 Try.underlying23 rfl (tab_sized _) ?_)
        | (refine wpList_store_row rfl 23 _ _ rfl w.heap.size _ rfl rfl _ _ h0 (tab_sized _) (by rw [arr_size, arr_size]) (arr_one _ _ _) ?_))
      exact bodyPost_ret (v := .agg (arr .u32 256 el)) (results_cell_row rfl _ _ w.heap.size _ _ (0, 0) _ rfl (h0.row_same _) Try.underlying23 rfl (tab_sized _)) rfl ⟨rfl, below_row hb (Nat.le_refl _) _⟩
set_option maxRecDepth 100000 in
theorem table_any (w : World) :
    Calls Try.prog 54 #[] w fun e w' => e = .returned (.agg (arr .u32 256 el)) ∧ Below w.heap.size w w' := by
  have hz := (zero_of_info tab_zero).1
  go_enter Try.func54, Try.ntmps54
  go_wp2_with (with_reducible refine wpList_alloc_big rfl 23 rfl _ hz ?_)
  clear hz
  go_loopw [4] (fun i wr => ∃ k : Nat, k ≤ 256 ∧ i = .int .i64 (k : Int) ∧ Blk wr w.heap.size 23 (arr .u32 256 fun _ => 0) ∧ Blk wr (w.heap.size + 1) 23 (arr .u32 256 (till k)) ∧ Below w.heap.size w wr)
    (fun i _ => 256 - (intOf i).toNat)
  case atStart =>
    refine ⟨0, by omega, rfl, (Blk.new w _ _).alloc _, ?_, ((Below.refl _ _).alloc (Nat.le_refl _) _).alloc (by simp) _⟩
    rw [till_zero]
    simpa using Blk.new (w.alloc (.cells (arr .u32 256 fun _ => 0) 23)) 23 (arr .u32 256 fun _ => 0)
  case round =>
    obtain ⟨k, hk, rfl, h0, h1, hb⟩ := hrel
    by_cases hlt : k < 256
    · have hc := h1.arr_cell hlt
      have hf := h1.frozen k
      have hd : decide ((k : Int) < 256) = true := decide_eq_true (by omega)
      go_wp2
      go_loop [3, 9] (fun x j => ∃ m : Nat, m ≤ 8 ∧ j = .int .i64 (m : Int) ∧ x = .int .u32 (tns m k : Nat)) (fun _ j => 8 - (intOf j).toNat)
      case atStart => exact ⟨0, by omega, rfl, rfl⟩
      case round =>
        obtain ⟨m, hm, rfl, rfl⟩ := hrel
        have hx := tns_lt m (show k < 4294967296 by omega)
        have HS := Lib.hid (show tns (m + 1) k = tn (tns m k) from rfl)
        by_cases hlm : m < 8
        · go_wp2_with (go_at_call 97; refine (turn_any (tns m k) hx _).mono ?_; rintro e w' ⟨rfl, rfl⟩)
          go_round
          case rel => exact ⟨m + 1, by omega, by go_num, by rw [HS.out]⟩
          case measure => simp [intOf]; omega
        · obtain rfl : m = 8 := by omega
          go_wp2
          go_roundw
          case rel => exact ⟨k + 1, by omega, by go_num, h0.far (by simp) _, by rw [← till_set]; exact h1.set_ _ _, hb.setCell (by simp) _⟩
          case measure => simp [intOf]; omega
    · obtain rfl : k = 256 := by omega
      rw [till_all] at h1
      go_wp2_with (first
        | (refine wpList_load_row rfl 23 _ rfl (w.heap.size + 1) rfl _ _ (0, 0) _ h1 Try.underlying23 rfl (tab_sized _) ?_)
        | (refine wpList_store_row rfl 23 _ _ rfl w.heap.size _ rfl rfl _ _ h0 (tab_sized _) (by rw [arr_size, arr_size]) (arr_one _ _ _) ?_))
      exact bodyPost_ret (v := .agg (arr .u32 256 el)) (results_cell_row rfl _ _ w.heap.size _ _ (0, 0) _ rfl (h0.row_same _) Try.underlying23 rfl (tab_sized _)) rfl ⟨rfl, below_row hb (Nat.le_refl _) _⟩

end Go.Proofs.Ytldaijkcmnnjpaa
