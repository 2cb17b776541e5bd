/- Contracts and laws of a chapter that its statement of names leans on. Each states its conditions. -/
import Derived.Test.YtldaijkcmnnjpaaCrcNext
namespace Go.Proofs.Ytldaijkcmnnjpaa
open Go.RowKit Crc
set_option linter.unusedVariables false
theorem a4_zero : (Try.prog.info? 34).map (fun i => (i.zero, i.size)) = some (some (.agg (arr .u8 4 fun _ => 0)), 4) := by kernel_rfl
set_option maxRecDepth 100000 in
theorem patch_bad (f : Nat → Nat) (hb : eqn 256 f el = false) (v1 v2 : Value) (w : World) :
    Calls Try.prog 14 #[.agg (arr .u32 256 f), v1, v2] w fun e w' => e = .returned (.tuple #[.agg (arr .u8 4 fun _ => 0), .int .i64 8]) ∧ Below w.heap.size w w' := by
  have HZ4 := Lib.hid (zero_of_info a4_zero).1
  have HB := Lib.hid hb
  clear hb
  go_enter Try.func14, Try.ntmps14
  go_wp2_with (first
    | (refine wpList_alloc_big rfl 34 rfl _ HZ4.out ?_)
    | (refine wpList_load_row rfl 23 _ rfl w.heap.size rfl _ _ (0, 0) _ ((Blk.new w _ _).alloc _) Try.underlying23 rfl (tab_sized _) ?_))
  refine (check_bad f HB.out _).mono ?_
  rintro e w1 ⟨rfl, hb1⟩
  have hk6 : Blk w1 (w.heap.size + 1) 34 (arr .u8 4 fun _ => 0) := (by simpa using Blk.new (w.alloc (.cells (arr .u32 256 f) 23)) 34 (arr .u8 4 fun _ => 0) : Blk _ (w.heap.size + 1) _ _).below hb1 (by simp)
  have hB1 : Below w.heap.size w w1 := (((Below.refl _ _).alloc (Nat.le_refl _) _).alloc (by simp) _).trans (hb1.mono (by simp; omega))
  go_wp2_with (refine wpList_store_row rfl 34 (.tmp 6) (.tmp 21) rfl (w.heap.size + 1) ?cells ?hx ?hy 34 ?old ?hg ?hi ?ho ?h1 ?_)
  case cells => exact #[.int .u8 0, .int .u8 0, .int .u8 0, .int .u8 0]
  case old => exact arr .u8 4 fun _ => 0
  case hx => rfl
  case hy => rfl
  case hg => exact hk6
  case hi => exact (zero_of_info a4_zero).2
  case ho => rfl
  case h1 => exact arr_one .u8 4 fun _ => 0
  exact bodyPost_ret (v := .tuple #[.agg (arr .u8 4 fun _ => 0), .int .i64 8]) (results_arr_tmp (p := 6) (q := 7) rfl _ _ (w.heap.size + 1) _ #[.int .u8 0, .int .u8 0, .int .u8 0, .int .u8 0] (0, 0) _ rfl (hk6.row_same _) Try.underlying34 rfl (zero_of_info a4_zero).2 |>.trans rfl) rfl ⟨rfl, below_row hB1 (by omega) _⟩

end Go.Proofs.Ytldaijkcmnnjpaa
