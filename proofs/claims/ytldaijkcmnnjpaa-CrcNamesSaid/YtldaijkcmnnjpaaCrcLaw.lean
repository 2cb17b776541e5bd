/- Contracts and laws of a chapter that its statement of names leans on. Each states its conditions. -/
import Derived.Test.YtldaijkcmnnjpaaCrcNext
namespace Go.Proofs.Ytldaijkcmnnjpaa
open Go.RowKit Crc
set_option linter.unusedVariables false
/-- The table with the element 'at' changed, if there is one. -/
def chg (i : Int) (y : Nat) (j : Nat) : Nat := if (j : Int) = i then el j ^^^ y else el j
theorem chg_out {i : Int} (y : Nat) (h : ¬ (0 ≤ i ∧ i < 256)) : arr .u32 256 (chg i y) = arr .u32 256 el := arr_congr fun j hj => by
  unfold chg; rw [if_neg (by omega)]
theorem chg_in {i : Nat} (y : Nat) : (arr .u32 256 el).setIfInBounds i (.int .u32 ((el i ^^^ y : Nat) : Int)) = arr .u32 256 (chg i y) := by
  rw [arr_set]
  refine arr_congr fun j _ => ?_
  unfold chg
  by_cases e : j = i
  · subst e; simp
  · rw [if_neg e, if_neg (by omega)]
set_option maxRecDepth 100000 in
theorem ltable_any (i : Int) (y : Nat) (hy : y < 4294967296) (w : World) :
    Calls Try.prog 11 #[.int .i64 i, .int .u32 (y : Int)] w fun e w' => e = .returned (.agg (arr .u32 256 (chg i y))) ∧ Below w.heap.size w w' := by
  have hz := (zero_of_info tab_zero).1
  have HZ := Lib.hid hz
  clear hz
  by_cases hin : 0 ≤ i ∧ i < 256
  · obtain ⟨h0, h1⟩ := hin
    obtain ⟨k, rfl⟩ := Int.eq_ofNat_of_zero_le h0
    have hx := u32_xorc (el k) y (el_lt (by omega)) hy
    go_enter Try.func11, Try.ntmps11
    go_wp2_with (refine wpList_alloc_big rfl 23 rfl _ HZ.out ?_)
    refine (rtable_any _).mono ?_
    rintro e w1 ⟨rfl, hb1⟩
    have hc := (Blk.new w1 23 (arr .u32 256 el)).arr_cell (show k < 256 by omega)
    have hb0 : Blk w1 w.heap.size 23 (arr .u32 256 fun _ => 0) := (Blk.new w _ _).below hb1 (by simp)
    have hS : Blk (w1.alloc (.cells ((arr .u32 256 el).setIfInBounds k (.int .u32 ((el k ^^^ y : Nat) : Int))) 23)) w1.heap.size 23 (arr .u32 256 (chg k y)) := by rw [chg_in]; exact Blk.new _ _ _
    have hbS := hb0.alloc (.cells ((arr .u32 256 el).setIfInBounds k (.int .u32 ((el k ^^^ y : Nat) : Int))) 23)
    go_wp2_with (first
      | (refine wpList_alloc_big rfl 23 rfl _ HZ.out ?_)
      | (refine wpList_store_new rfl 23 _ _ rfl w1 rfl _ (arr .u32 256 el) rfl (tab_sized _) (by rw [arr_size, arr_size]) (arr_one _ _ _) ?_)
      | (refine wpList_load_row rfl 23 _ rfl w1.heap.size rfl _ (arr .u32 256 (chg k y)) (0, 0) _ hS Try.underlying23 rfl (tab_sized _) ?_)
      | (refine wpList_store_row rfl 23 _ _ rfl w.heap.size _ rfl rfl _ _ hbS (tab_sized _) (by rw [arr_size, arr_size]) (arr_one _ _ _) ?_))
    exact bodyPost_ret (v := .agg (arr .u32 256 (chg (k : Int) y))) (results_cell_row rfl _ _ w.heap.size _ _ (0, 0) _ rfl (hbS.row_same _) Try.underlying23 rfl (tab_sized _)) rfl
      ⟨rfl, below_row (((((Below.refl _ _).alloc (Nat.le_refl _) _).trans (hb1.mono (B' := w.heap.size) (by simp)))).alloc (by have := hb1.size; simp at this; omega) _) (Nat.le_refl _) _⟩
  · rw [chg_out y hin]
    have hz0 : i < 0 ∨ 0 ≤ i ∧ 256 ≤ i := by omega
    clear hin
    rcases hz0 with h0 | ⟨h0, h1⟩
    all_goals
      go_enter Try.func11, Try.ntmps11
      go_wp2_with (refine wpList_alloc_big rfl 23 rfl _ HZ.out ?_)
      refine (rtable_any _).mono ?_
      rintro e w1 ⟨rfl, hb1⟩
      have hb0 : Blk w1 w.heap.size 23 (arr .u32 256 fun _ => 0) := (Blk.new w _ _).below hb1 (by simp)
      have hbS := hb0.alloc (.cells (arr .u32 256 el) 23)
      go_wp2_with (first
        | (refine wpList_alloc_big rfl 23 rfl _ HZ.out ?_)
        | (refine wpList_store_new rfl 23 _ _ rfl w1 rfl _ (arr .u32 256 el) rfl (tab_sized _) (by rw [arr_size, arr_size]) (arr_one _ _ _) ?_)
        | (refine wpList_load_row rfl 23 _ rfl w1.heap.size rfl _ (arr .u32 256 el) (0, 0) _ (Blk.new w1 _ _) Try.underlying23 rfl (tab_sized _) ?_)
        | (refine wpList_store_row rfl 23 _ _ rfl w.heap.size _ rfl rfl _ _ hbS (tab_sized _) (by rw [arr_size, arr_size]) (arr_one _ _ _) ?_))
      exact bodyPost_ret (v := .agg (arr .u32 256 el)) (results_cell_row rfl _ _ w.heap.size _ _ (0, 0) _ rfl (hbS.row_same _) Try.underlying23 rfl (tab_sized _)) rfl
        ⟨rfl, below_row (((((Below.refl _ _).alloc (Nat.le_refl _) _).trans (hb1.mono (B' := w.heap.size) (by simp)))).alloc (by have := hb1.size; simp at this; omega) _) (Nat.le_refl _) _⟩
set_option maxRecDepth 100000 in
theorem lsum_any (s : ByteArray) (x : Nat) (hx : nxt 0 s.data.toList = x) (hs : s.size ≤ 200000) (w : World) :
    Calls Try.prog 55 #[.string s, .int .u32 (x : Int)] w fun e w' => e = .returned (.bool true) ∧ Below w.heap.size w w' := by
  have HX := Lib.hid hx
  clear hx
  have HV : nxtV true s.size 0 s.data.toList = x := by simp [nxtV, hs, HX.out]
  have HE : nxtE true s.size = 0 := by simp [nxtE, hs]
  have HV := Lib.hid HV
  have HE := Lib.hid HE
  go_enter Try.func55, Try.ntmps55
  go_wp2_with fail
  refine (table_any _).mono ?_
  rintro e w1 ⟨rfl, hb1⟩
  go_wp2_with (refine wpList_to_bytes rfl 9 25 5 _ rfl Try.underlying9 Try.underlying25 Try.underlying5 s rfl ?_; intro A c w2 hr2 hb2 hc2)
  refine (sum_all el true (eqn_refl _ _) A _ c _ w2 hr2 (by omega)).mono ?_
  rintro e w3 ⟨rfl, hb3⟩
  rw [HV.out, HE.out]
  go_wp2
  go_ret
  exact ⟨rfl, hb1.trans ((hb2.mono hb1.size).trans (hb3.mono (Nat.le_trans hb1.size hb2.size)))⟩
theorem el_1 : el 1 = 1996959894 := by decide +kernel
theorem el_255 : el 255 = 755167117 := by decide +kernel
theorem nx_0 : nxt 0 [] = 0 := by decide +kernel
theorem nx_1 : nxt 0 [97] = 3904355907 := by decide +kernel
theorem nx_2 : nxt 0 [97, 98, 99] = 891568578 := by decide +kernel
theorem nx_3 : nxt 0 [49, 50, 51, 52, 53, 54, 55, 56, 57] = 3421780262 := by decide +kernel
set_option maxRecDepth 100000 in
theorem alive_any (w : World) : Calls Try.prog 15 #[] w fun e w' => e = .returned (.bool true) ∧ Below w.heap.size w w' := by
  have HZ := Lib.hid (zero_of_info tab_zero).1
  go_enter Try.func15, Try.ntmps15
  go_wp2_with fail
  refine (table_any _).mono ?_
  rintro e w1 ⟨rfl, hb1⟩
  have hc1 := (Blk.new w1 23 (arr .u32 256 el)).arr_cell (show 1 < 256 by omega)
  have hc2 := (Blk.new w1 23 (arr .u32 256 el)).arr_cell (show 255 < 256 by omega)
  rw [el_1] at hc1
  rw [el_255] at hc2
  go_wp2_with (first
    | (refine wpList_alloc_big rfl 23 rfl _ HZ.out ?_)
    | (refine wpList_store_new rfl 23 _ _ rfl w1 rfl _ (arr .u32 256 el) rfl (tab_sized _) (by rw [arr_size, arr_size]) (arr_one _ _ _) ?_))
  clear hc1 hc2
  refine (lsum_any ⟨#[]⟩ 0 nx_0 (by decide) _).mono ?_
  rintro e w2 ⟨rfl, hb2⟩
  go_wp2_with fail
  refine (lsum_any ⟨#[97]⟩ 3904355907 nx_1 (by decide) _).mono ?_
  rintro e w3 ⟨rfl, hb3⟩
  go_wp2_with fail
  refine (lsum_any ⟨#[97, 98, 99]⟩ 891568578 nx_2 (by decide) _).mono ?_
  rintro e w4 ⟨rfl, hb4⟩
  go_wp2_with fail
  refine (lsum_any ⟨#[49, 50, 51, 52, 53, 54, 55, 56, 57]⟩ 3421780262 nx_3 (by decide) _).mono ?_
  rintro e w5 ⟨rfl, hb5⟩
  go_wp2
  go_ret
  have h1 := hb1.alloc hb1.size (.cells (arr .u32 256 el) 23)
  have h2 := h1.trans (hb2.mono h1.size)
  have h3 := h2.trans (hb3.mono h2.size)
  have h4 := h3.trans (hb4.mono h3.size)
  exact ⟨rfl, h4.trans (hb5.mono h4.size)⟩

end Go.Proofs.Ytldaijkcmnnjpaa
