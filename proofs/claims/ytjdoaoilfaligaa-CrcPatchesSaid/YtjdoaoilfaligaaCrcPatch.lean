/- The contract of crc.Patch: with the right table it returns the four bytes that make one checksum another one; with another table it returns an error. -/
import Derived.Test.YtjdoaoilfaligaaCrcNext
namespace Go.Proofs.Ytjdoaoilfaligaa
open Go.RowKit Crc
set_option linter.unusedVariables false

theorem a4_zero : (Try.prog.info? 36).map (fun i => (i.zero, i.size)) = some (some (.agg (arr .u8 4 fun _ => 0)), 4) := by kernel_rfl
theorem a4_sized (f : Nat → Nat) : (Try.prog.info? 36).map (·.size) = some (arr .u8 4 f).size := by rw [arr_size]; exact (zero_of_info a4_zero).2
theorem a8_zero : (Try.prog.info? 56).map (fun i => (i.zero, i.size)) = some (some (.agg (arr .u8 256 fun _ => 0)), 256) := by kernel_rfl
theorem u8_size (w : World) : (sizeOf 5).run Try.prog w = .ok 1 w := by kernel_rfl
theorem shl_u32 (x : Nat) : (IntKind.u32.wrap ((x : Int) * 256)) = ((x * 256 % 4294967296 : Nat) : Int) := by
  rw [IntKind.wrap_u32']; omega

set_option maxRecDepth 100000 in
set_option maxHeartbeats 1600000 in
theorem patch_ok (s q : Nat) (hs : s < 4294967296) (hq : q < 4294967296) (w : World) :
    Calls Try.prog 22 #[.agg (arr .u32 256 el), .int .u32 (s : Int), .int .u32 (q : Int)] w fun e w' => e = .returned (.tuple #[.agg (arr .u8 4 (pat s q)), .int .i64 0]) ∧ Below w.heap.size w w' := by
  have HZ4 := Lib.hid (zero_of_info a4_zero).1
  have HZ8 := Lib.hid (zero_of_info a8_zero).1
  go_enter Try.func22, Try.ntmps22
  go_wp2_with (first
    | (refine wpList_alloc_big rfl 36 rfl _ HZ4.out ?_)
    | (refine wpList_load_row rfl 25 _ rfl w.heap.size rfl _ _ (0, 0) _ ((Blk.new w _ _).alloc _) Try.underlying25 rfl (tab_sized _) ?_))
  refine (check_ok el (eqn_refl _ _) _).mono ?_
  rintro e w1 ⟨rfl, hb1⟩
  have hk0 : Blk w1 w.heap.size 25 (arr .u32 256 el) := ((Blk.new w _ _).alloc _).below hb1 (by simp; omega)
  have hk6 : Blk w1 (w.heap.size + 1) 36 (arr .u8 4 fun _ => 0) := (by simpa using Blk.new (w.alloc (.cells (arr .u32 256 el) 25)) 36 (arr .u8 4 fun _ => 0) : Blk _ (w.heap.size + 1) _ _).below hb1 (by simp)
  have hB1 : Below w.heap.size w w1 := (((Below.refl _ _).alloc (Nat.le_refl _) _).alloc (by simp) _).trans (hb1.mono (by simp; omega))
  clear hb1
  have hk0' := hk0.alloc (.cells (arr .u8 256 fun _ => 0) 56)
  go_wp2_with (first
    | (refine wpList_alloc_big rfl 56 rfl _ HZ8.out ?_)
    | (refine wpList_load_row rfl 25 _ rfl w.heap.size rfl _ _ (0, 0) _ hk0' Try.underlying25 rfl (tab_sized _) ?_))
  go_loopw [24] (fun i wr => ∃ (k : Nat) (F : Nat → Nat), k ≤ 256 ∧ i = .int .i64 (k : Int) ∧ (∀ j, j < k → F (el j / 16777216) = j) ∧ Blk wr w.heap.size 25 (arr .u32 256 el) ∧ Blk wr (w.heap.size + 1) 36 (arr .u8 4 fun _ => 0) ∧
      Blk wr w1.heap.size 56 (arr .u8 256 F) ∧ Below w.heap.size w wr) (fun i _ => 256 - (intOf i).toNat)
  case atStart => exact ⟨0, _, by omega, rfl, fun j hj => by omega, hk0', hk6.alloc _, Blk.new _ _ _, hB1.alloc hB1.size _⟩
  case round =>
    obtain ⟨k, F, hk, rfl, hF, h0, h6, h9, hB⟩ := hrel
    have HF := Lib.hid hF
    clear hF
    by_cases hlt : k < 256
    · have ix := run_index_arr 25 22 .u32 256 Try.underlying25 Try.underlying22 u32_size el k hlt
      have he := el_lt (x := k) (by omega)
      have hc := h9.arr_cell (show el k / 16777216 < 256 by omega)
      have hf := h9.frozen (el k / 16777216)
      have HS := Lib.hid (arr_set (k := .u8) (n := 256) F (el k / 16777216) k)
      go_wp2
      go_roundw
      case rel =>
        refine ⟨k + 1, fun c => if c = el k / 16777216 then k else F c, by omega, by go_num, fun j hj => ?_, h0.far (by show w.heap.size ≠ w1.heap.size; have := hB1.size; have := hk6.lt; omega) _, h6.far (by show w.heap.size + 1 ≠ w1.heap.size; have := hk6.lt; omega) _, by rw [← HS.out]; exact h9.set_ _ _, hB.setCell (by exact hB1.size) _⟩
        by_cases e : j = k
        · subst e; simp
        · show (if _ then _ else _) = _
          rw [if_neg (fun h => e (top_inj (by omega) (by omega) h))]; exact HF.out j (by omega)
      case measure => simp [intOf]; omega
    · obtain rfl : k = 256 := by omega
      have HI : Hid (∀ c, c < 256 → F c = inv c) := fun c hc => by
        have h1 := HF.out (inv c) (inv_lt hc)
        rwa [el_inv hc] at h1
      have N1 := not_u32 q hq
      have hsz := hk6.lt
      have hBs := hB1.size
      clear HF hk0 hk0' hk6
      obtain ⟨wo, rfl⟩ : ∃ wo : World, wo = wr := ⟨_, rfl⟩
      have hs9 := h9.lt
      go_wp2_with (first
        | (refine wpList_alloc_big rfl 36 rfl _ HZ4.out ?_))
      clear N1
      go_loopw [13, 14] (fun x i wr => ∃ (r : Nat) (G : Nat → Nat) (i' : Int), r ≤ 4 ∧ i = .int .i64 i' ∧ i' = (r : Int) - 1 ∧ x = .int .u32 (wst q (4 - r) : Nat) ∧ (∀ j, j < 4 → r ≤ j → G j = kk q j) ∧ Blk wr w.heap.size 25 (arr .u32 256 el) ∧ Blk wr (w.heap.size + 1) 36 (arr .u8 4 fun _ => 0) ∧
          Blk wr w1.heap.size 56 (arr .u8 256 F) ∧ Blk wr wo.heap.size 36 (arr .u8 4 G) ∧ Below w.heap.size w wr) (fun _ i _ => (intOf i + 1).toNat)
      case atStart => exact ⟨4, _, _, by omega, rfl, by omega, rfl, fun j h1 h2 => by omega, h0.alloc _, h6.alloc _, h9.alloc _, Blk.new _ _ _, hB.alloc hB.size _⟩
      case round =>
        obtain ⟨r, G, i', hr, rfl, hi', rfl, hG, g0, g6, g9, g12, gB⟩ := hrel
        have HG := Lib.hid hG
        clear hG
        rcases r with _ | r
        · obtain rfl : i' = -1 := by omega
          have hGe : arr .u8 4 G = arr .u8 4 (kk q) := arr_congr fun j hj => HG.out j hj (by omega)
          rw [hGe] at g12
          clear HG hGe hi'
          have N1 := not_u32 s hs
          obtain ⟨wp, rfl⟩ : ∃ wp : World, wp = wr := ⟨_, rfl⟩
          go_wp2_with (refine wpList_load_row rfl 36 _ rfl wo.heap.size rfl _ _ (0, 0) _ g12 Try.underlying36 rfl (a4_sized _) ?_)
          clear N1
          go_loopw [13, 57] (fun x i wr => ∃ (m : Nat) (G : Nat → Nat), m ≤ 4 ∧ i = .int .i64 (m : Int) ∧ x = .int .u32 (xst s q m : Nat) ∧ (∀ j, j < m → G j = pat s q j) ∧ Blk wr w.heap.size 25 (arr .u32 256 el) ∧ Blk wr (w.heap.size + 1) 36 (arr .u8 4 fun _ => 0) ∧
              Blk wr wo.heap.size 36 (arr .u8 4 G) ∧ Below w.heap.size w wr) (fun _ i _ => 4 - (intOf i).toNat)
          case atStart => exact ⟨0, _, by omega, rfl, rfl, fun j h => by omega, g0, g6, g12, gB⟩
          case round =>
            obtain ⟨m, G, hm, rfl, rfl, hG, g0, g6, g12, gB⟩ := hrel
            have HG := Lib.hid hG
            clear hG
            by_cases hlt : m < 4
            · have ix := run_index_arr 36 5 .u8 4 Try.underlying36 Try.underlying5 u8_size (kk q) m hlt
              have hx := xst_lt s q m
              have hkl := kk_lt q m
              have HX := Lib.hid (show xst s q (m + 1) = (xst s q m / 256) ^^^ el (kk q m) from rfl)
              have HP := Lib.hid (show pat s q m = kk q m ^^^ (xst s q m % 256) from rfl)
              have hc0 := g0.arr_cell hkl
              have hc12 := g12.arr_cell hlt
              have hf12 := g12.frozen m
              have HS := Lib.hid (arr_set (k := .u8) (n := 4) G m (pat s q m))
              have gg := g12.set_ m (.int .u8 (pat s q m : Int))
              rw [HS.out] at gg
              generalize xst s q m = x at *
              generalize kk q m = k at *
              have e1 : bits .xor .u8 (k : Int) ((x : Int) % 256) = ((pat s q m : Nat) : Int) := by
                have h := u8_xor_nat k (x % 256) hkl (by omega)
                rw [show ((x % 256 : Nat) : Int) = (x : Int) % 256 from by omega] at h
                rw [h, HP.out]
              have e2 := mix_u32 x (el k) hx (el_lt (by omega))
              go_wp2
              go_roundw
              case rel =>
                refine ⟨m + 1, _, by omega, by go_num, by rw [HX.out], fun j hj => ?_, g0.far (by show w.heap.size ≠ wo.heap.size; omega) _, g6.far (by show w.heap.size + 1 ≠ wo.heap.size; omega) _, gg, gB.setCell (by show w.heap.size ≤ wo.heap.size; omega) _⟩
                by_cases e : j = m
                · subst e; simp
                · show (if _ then _ else _) = _
                  rw [if_neg e]; exact HG.out j (by omega)
              case measure => simp [intOf]; omega
            · obtain rfl : m = 4 := by omega
              have hGe : arr .u8 4 G = arr .u8 4 (pat s q) := arr_congr fun j hj => HG.out j hj
              rw [hGe] at g12
              go_wp2_with (first
                | (refine wpList_load_row rfl 36 _ rfl wo.heap.size rfl _ _ (0, 0) _ g12 Try.underlying36 rfl (a4_sized _) ?_)
                | (refine wpList_store_row rfl 36 _ _ rfl (w.heap.size + 1) _ rfl rfl _ _ g6 (a4_sized _) (by rw [arr_size, arr_size]) (arr_one _ _ _) ?_))
              exact bodyPost_ret (v := .tuple #[.agg (arr .u8 4 (pat s q)), .int .i64 0]) (results_arr_tmp (p := 6) (q := 7) rfl _ _ (w.heap.size + 1) _ _ (0, 0) _ rfl (g6.row_same _) Try.underlying36 rfl (a4_sized _) |>.trans rfl) rfl ⟨rfl, below_row gB (by omega) _⟩
        · obtain rfl : i' = (r : Int) := by omega
          have hx := wst_lt q (4 - (r + 1))
          have hkv : F (wst q (4 - (r + 1)) / 16777216) = kk q r := by
            rw [HI.out _ (by omega), show 4 - (r + 1) = 3 - r from by omega]; rfl
          have HW : Hid (wst q (4 - r) = (wst q (4 - (r + 1)) ^^^ el (kk q r)) * 256 % 4294967296) := by
            rw [show 4 - r = (3 - r) + 1 from by omega, show 4 - (r + 1) = 3 - r from by omega]; rfl
          have hkl := kk_lt q r
          have hc9 := g9.arr_cell (show wst q (4 - (r + 1)) / 16777216 < 256 by omega)
          rw [hkv] at hc9
          have hc0 := g0.arr_cell hkl
          have hc12 := g12.arr_cell (show r < 4 by omega)
          have hf12 := g12.frozen r
          have HS := Lib.hid (arr_set (k := .u8) (n := 4) G r (kk q r))
          have gg := g12.set_ r (.int .u8 (kk q r : Int))
          rw [HS.out] at gg
          have gg := Lib.hid gg
          have HGr : Hid (∀ j, j < 4 → r ≤ j → (if j = r then kk q r else G j) = kk q j) := fun j h1 h2 => by
            by_cases e : j = r
            · subst e; simp
            · rw [if_neg e]; exact HG.out j h1 (by omega)
          clear hkv hi'
          generalize wst q (4 - (r + 1)) = x at *
          have e1 := u32_xorc x (el (kk q r)) hx (el_lt (by omega))
          have hy := xor_lt32 hx (el_lt (x := kk q r) (by omega))
          have hsh := shl_u32 (x ^^^ el (kk q r))
          have hr3 : r < 4 := by omega
          go_wp2
          go_roundw
          case rel =>
            exact ⟨r, _, _, by omega, rfl, rfl, by rw [HW.out]; congr 1, HGr.out, g0.far (by show w.heap.size ≠ wo.heap.size; omega) _, g6.far (by show w.heap.size + 1 ≠ wo.heap.size; omega) _, g9.far (by show w1.heap.size ≠ wo.heap.size; omega) _, gg.out, gB.setCell (by show w.heap.size ≤ wo.heap.size; omega) _⟩
          case measure => simp [intOf]

set_option maxRecDepth 100000 in
theorem patch_bad (f : Nat → Nat) (hb : eqn 256 f el = false) (v1 v2 : Value) (w : World) :
    Calls Try.prog 22 #[.agg (arr .u32 256 f), v1, v2] w fun e w' => e = .returned (.tuple #[.agg (arr .u8 4 fun _ => 0), .int .i64 8]) ∧ Below w.heap.size w w' := by
  have HZ4 := Lib.hid (zero_of_info a4_zero).1
  have HB := Lib.hid hb
  clear hb
  go_enter Try.func22, Try.ntmps22
  go_wp2_with (first
    | (refine wpList_alloc_big rfl 36 rfl _ HZ4.out ?_)
    | (refine wpList_load_row rfl 25 _ rfl w.heap.size rfl _ _ (0, 0) _ ((Blk.new w _ _).alloc _) Try.underlying25 rfl (tab_sized _) ?_))
  refine (check_bad f HB.out _).mono ?_
  rintro e w1 ⟨rfl, hb1⟩
  have hk6 : Blk w1 (w.heap.size + 1) 36 (arr .u8 4 fun _ => 0) := (by simpa using Blk.new (w.alloc (.cells (arr .u32 256 f) 25)) 36 (arr .u8 4 fun _ => 0) : Blk _ (w.heap.size + 1) _ _).below hb1 (by simp)
  have hB1 : Below w.heap.size w w1 := (((Below.refl _ _).alloc (Nat.le_refl _) _).alloc (by simp) _).trans (hb1.mono (by simp; omega))
  go_wp2_with (refine wpList_store_row rfl 36 (.tmp 6) (.tmp 21) rfl (w.heap.size + 1) ?cells ?hx ?hy 36 ?old ?hg ?hi ?ho ?h1 ?_)
  case cells => exact #[.int .u8 0, .int .u8 0, .int .u8 0, .int .u8 0]
  case old => exact arr .u8 4 fun _ => 0
  case hx => rfl
  case hy => rfl
  case hg => exact hk6
  case hi => exact (zero_of_info a4_zero).2
  case ho => rfl
  case h1 => exact arr_one .u8 4 fun _ => 0
  exact bodyPost_ret (v := .tuple #[.agg (arr .u8 4 fun _ => 0), .int .i64 8]) (results_arr_tmp (p := 6) (q := 7) rfl _ _ (w.heap.size + 1) _ #[.int .u8 0, .int .u8 0, .int .u8 0, .int .u8 0] (0, 0) _ rfl (hk6.row_same _) Try.underlying36 rfl (zero_of_info a4_zero).2 |>.trans rfl) rfl ⟨rfl, below_row hB1 (by omega) _⟩
end Go.Proofs.Ytjdoaoilfaligaa
