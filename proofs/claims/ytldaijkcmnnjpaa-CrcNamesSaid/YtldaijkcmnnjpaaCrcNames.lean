/- The walk of CrcNames. No conditions. -/
import Derived.Test.YtldaijkcmnnjpaaCrcNm2
import Derived.BigQuiet
namespace Go.Proofs.Ytldaijkcmnnjpaa
open Go.RowKit Crc
set_option linter.unusedVariables false

set_option maxRecDepth 100000 in
set_option maxHeartbeats 8000000 in
theorem crcNames_walk (w : World) :
    Calls Try.prog 3 #[] w fun e w' => e = .returned (.bool true) ∧ Below w.heap.size w w' := by
  go_enter Try.func3, Try.ntmps3
  have HZT := Lib.hid (zero_of_info tab_zero).1
  have hB : Below w.heap.size w w := Below.refl _ _
  go_wp2_with fail
  refine (rtable_any w).mono ?_
  rintro e y1 ⟨rfl, b_⟩
  replace hB := hB.trans (b_.mono hB.size)
  clear b_
  go_upto_region 2 with (first | (refine wpList_alloc_big rfl 23 rfl _ HZT.out ?_) | (refine wpList_store_new rfl 23 (.tmp 1) (.tmp 36) rfl y1 rfl (arr .u32 256 fun _ => 0) (arr .u32 256 el) rfl (tab_sized _) (by rw [arr_size, arr_size]) (arr_one _ _ _) ?_))
  have hT := Blk.new y1 23 (arr .u32 256 el)
  obtain ⟨G0, hG0⟩ : ∃ g, g = y1.heap.size := ⟨_, rfl⟩
  rw [← hG0] at hT ⊢
  clear hG0
  have b_ := (Below.refl y1.heap.size y1).alloc (Nat.le_refl _) (.cells (arr .u32 256 el) 23)
  replace hB := hB.trans (b_.mono hB.size)
  clear b_
  generalize (y1.alloc (.cells (arr .u32 256 el) 23)) = y2 at *
  go_upto_region 3 with (refine wpList_mk1 _ rfl (.const (.int .i64 200001)) (.const (.int .i64 200001)) rfl sl8c rfl 200001 (by rfl) (by rfl) rfl rfl (by omega) ?_; intro y3 o2 b_)
  have RZ := rb_zeros o2
  clear o2
  obtain ⟨GZ, hGZ⟩ : ∃ g, g = y2.heap.size := ⟨_, rfl⟩
  rw [← hGZ] at RZ ⊢
  clear hGZ
  replace hT := Blk.mv hT b_
  replace hB := hB.trans (b_.mono hB.size)
  clear b_
  go_wp2_with (refine wpList_bldz rfl rfl ?_)
  refine (sum_bad _ RZ (by omega)).mono ?_
  rintro e y4 ⟨rfl, b_⟩
  replace hT := Blk.mv hT b_
  replace RZ := RZ.mv b_
  replace hB := hB.trans (b_.mono hB.size)
  clear b_
  go_wp2_with fail
  refine (ltable_any 255 1 (by omega) _).mono ?_
  rintro e y5 ⟨rfl, b_⟩
  replace hT := Blk.mv hT b_
  replace RZ := RZ.mv b_
  replace hB := hB.trans (b_.mono hB.size)
  clear b_
  go_wp2_with fail
  have HN := next_bad (chg 255 1) eq_255 0 (.slice none 0 0) y5
  refine (HN).mono ?_
  rintro e y6 ⟨rfl, b_⟩
  replace hT := Blk.mv hT b_
  replace RZ := RZ.mv b_
  replace hB := hB.trans (b_.mono hB.size)
  clear b_
  clear HN
  go_wp2_with fail
  refine inv_go (prL [mV (.agg (arr .u32 256 (chg 0 1))), mBB 65 (List.replicate 65 []), mV (.tuple #[.int .u32 0, .int .i64 8]), mV (.tuple #[.int .u32 0, .int .i64 8]), mV (.int .u32 0), mV (.int .i64 8), mV (.int .u32 0), mV (.int .i64 8)]) [50, 51, 52, 49, 53, 54, 7, 8] (by kernel_rfl) (by kernel_rfl) (prL_mv (by intro q hq; simp only [List.mem_cons, List.mem_nil_iff, or_false] at hq; rcases hq with rfl | rfl | rfl | rfl | rfl | rfl | rfl | rfl <;> first | exact mV_mono _ | exact mBB_mono _ _)) (fun x hx => ?st) (fun V W' hW hV => ?en)
  case st =>
    refine Steps.cons (fun d hd a u hS hdep hoth K hK => ?_) ?_
    · go_simp
      refine (ltable_any 0 1 (by omega) u).mono ?_
      rintro e_ u' ⟨rfl, b⟩
      exact hK _ _ (Below.trans hS (b.mono (Below.size hS))) b rfl
    refine Steps.cons (fun d hd a u hS hdep hoth K hK => ?_) ?_
    · refine wp_mk (.const (.int .i64 65)) (.const (.int .i64 65)) rfl slBB 65 rfl rfl rfl rfl (by omega) ?_
      intro u' o2 b2
      rw [show (Value.slice none 0 0).cells = #[Value.slice none 0 0] from rfl, Nat.mul_one, toList_madeCells_one] at o2
      exact hK _ _ (Below.trans hS (b2.mono (Below.size hS))) b2 ⟨_, rfl, rbb_zeros o2⟩
    refine Steps.cons (fun d hd a u hS hdep hoth K hK => ?_) ?_
    · have e1 : a.eval (.tmp 50) = .agg (arr .u32 256 (chg 0 1)) := hdep 0 50 (by kernel_rfl) rfl
      obtain ⟨g, e2, hR⟩ := hdep 1 51 (by kernel_rfl) rfl
      simp [Act.eval] at e1 e2
      go_simp
      refine (pieces_bad (chg 0 1) eq_0 _ u).mono ?_
      rintro e_ u' ⟨rfl, b⟩
      exact hK _ _ (Below.trans hS (b.mono (Below.size hS))) b rfl
    refine Steps.cons (fun d hd a u hS hdep hoth K hK => ?_) ?_
    · have e : a.eval (.tmp 52) = .tuple #[.int .u32 0, .int .i64 8] := hdep 2 52 (by kernel_rfl) rfl
      refine wp_same (.tmp 52) (.inr rfl) ?_
      exact hK _ _ hS (Below.refl _ _) e
    refine Steps.cons (fun d hd a u hS hdep hoth K hK => ?_) ?_
    · have e : a.eval (.tmp 49) = .tuple #[.int .u32 0, .int .i64 8] := hdep 3 49 (by kernel_rfl) rfl
      simp [Act.eval] at e
      go_simp
      exact hK _ _ hS (Below.refl _ _) rfl
    refine Steps.cons (fun d hd a u hS hdep hoth K hK => ?_) ?_
    · have e : a.eval (.tmp 49) = .tuple #[.int .u32 0, .int .i64 8] := hdep 3 49 (by kernel_rfl) rfl
      simp [Act.eval] at e
      go_simp
      exact hK _ _ hS (Below.refl _ _) rfl
    refine Steps.cons (fun d hd a u hS hdep hoth K hK => ?_) ?_
    · have e : a.eval (.tmp 53) = .int .u32 0 := hdep 4 53 (by kernel_rfl) rfl
      refine wp_same (.tmp 53) (.inl rfl) ?_
      exact hK _ _ hS (Below.refl _ _) e
    refine Steps.cons (fun d hd a u hS hdep hoth K hK => ?_) ?_
    · have e : a.eval (.tmp 54) = .int .i64 8 := hdep 5 54 (by kernel_rfl) rfl
      refine wp_same (.tmp 54) (.inl rfl) ?_
      exact hK _ _ hS (Below.refl _ _) e
    exact trivial
  case en =>
    have eA : V 6 = .int .u32 0 := hV 6 7 rfl
    have eB : V 7 = .int .i64 8 := hV 7 8 rfl
    clear hV
    simp only [putL, Act.put, List.setIfInBounds_toArray, List.set_cons_zero, List.set_cons_succ, Nat.zero_add, Nat.reduceAdd]
    rw [eA, eB]
    obtain ⟨y7, hy7⟩ : ∃ x, x = W' := ⟨_, rfl⟩
    rw [← hy7] at hW ⊢
    clear hy7 eA eB
    replace hT := Blk.mv hT hW
    replace RZ := RZ.mv hW
    replace hB := hB.trans (hW.mono hB.size)
    clear hW
    go_wp2_with fail
    refine (ltable_any 7 2147483648 (by omega) _).mono ?_
    rintro e y8 ⟨rfl, b_⟩
    replace hT := Blk.mv hT b_
    replace RZ := RZ.mv b_
    replace hB := hB.trans (b_.mono hB.size)
    clear b_
    go_wp2_with fail
    have HN := join_bad (chg 7 2147483648) eq_7 (.int .u32 0) (.int .u32 0) (.int .i64 (-1)) y8
    refine (HN).mono ?_
    rintro e y9 ⟨rfl, b_⟩
    replace hT := Blk.mv hT b_
    replace RZ := RZ.mv b_
    replace hB := hB.trans (b_.mono hB.size)
    clear b_
    clear HN
    go_wp2_with (refine wpList_bldz rfl rfl ?_)
    refine (patch_is (.int .u32 0) (.int .u32 0) y9).mono ?_
    rintro e y10 ⟨rfl, b_⟩
    replace hT := Blk.mv hT b_
    replace RZ := RZ.mv b_
    replace hB := hB.trans (b_.mono hB.size)
    clear b_
    have b_ := (Below.refl y10.heap.size y10).alloc (Nat.le_refl _) (.cells #[.int .u8 0, .int .u8 0, .int .u8 0, .int .u8 0] 34)
    replace hT := Blk.mv hT b_
    replace RZ := RZ.mv b_
    replace hB := hB.trans (b_.mono hB.size)
    clear b_
    go_wp2_with (refine wpList_load_blk rfl 23 _ rfl G0 rfl hT Try.underlying23 rfl (tab_sized _) ?_)
    refine (sum_long _ RZ).mono ?_
    rintro e y11 ⟨rfl, b_⟩
    replace hT := Blk.mv hT b_
    replace RZ := RZ.mv b_
    replace hB := hB.trans (b_.mono hB.size)
    clear b_
    go_wp2_with (refine wpList_load_blk rfl 23 _ rfl G0 rfl hT Try.underlying23 rfl (tab_sized _) ?_)
    refine (next_long _ RZ).mono ?_
    rintro e y12 ⟨rfl, b_⟩
    replace hT := Blk.mv hT b_
    replace RZ := RZ.mv b_
    replace hB := hB.trans (b_.mono hB.size)
    clear b_
    go_wp2_with fail
    refine inv_go (prL [mV (.agg (arr .u32 256 el)), mBB 65 (List.replicate 65 []), mV (.tuple #[.int .u32 0, .int .i64 4]), mV (.tuple #[.int .u32 0, .int .i64 4]), mV (.int .u32 0), mV (.int .i64 4), mV (.int .u32 0), mV (.int .i64 4)]) [78, 79, 80, 77, 81, 82, 17, 18] (by kernel_rfl) (by kernel_rfl) (prL_mv (by intro q hq; simp only [List.mem_cons, List.mem_nil_iff, or_false] at hq; rcases hq with rfl | rfl | rfl | rfl | rfl | rfl | rfl | rfl <;> first | exact mV_mono _ | exact mBB_mono _ _)) (fun x hx => ?st) (fun V W' hW hV => ?en)
    case st =>
      refine Steps.cons (fun d hd a u hS hdep hoth K hK => ?_) ?_
      · refine wp_load_row 23 (.tmp 1) rfl G0 (hoth 1 (by decide)) 23 _ (0, 0) _ (Blk.mv (Blk.mv hT hx) hS) Try.underlying23 rfl (tab_sized _) ?_
        exact hK _ _ hS (Below.refl _ _) rfl
      refine Steps.cons (fun d hd a u hS hdep hoth K hK => ?_) ?_
      · refine wp_mk (.const (.int .i64 65)) (.const (.int .i64 65)) rfl slBB 65 rfl rfl rfl rfl (by omega) ?_
        intro u' o2 b2
        rw [show (Value.slice none 0 0).cells = #[Value.slice none 0 0] from rfl, Nat.mul_one, toList_madeCells_one] at o2
        exact hK _ _ (Below.trans hS (b2.mono (Below.size hS))) b2 ⟨_, rfl, rbb_zeros o2⟩
      refine Steps.cons (fun d hd a u hS hdep hoth K hK => ?_) ?_
      · have e1 : a.eval (.tmp 78) = .agg (arr .u32 256 el) := hdep 0 78 (by kernel_rfl) rfl
        obtain ⟨g, e2, hR⟩ := hdep 1 79 (by kernel_rfl) rfl
        simp [Act.eval] at e1 e2
        go_simp
        refine (pieces_is u hR (by omega) pc_65).mono ?_
        rintro e_ u' ⟨rfl, b⟩
        exact hK _ _ (Below.trans hS (b.mono (Below.size hS))) b rfl
      refine Steps.cons (fun d hd a u hS hdep hoth K hK => ?_) ?_
      · have e : a.eval (.tmp 80) = .tuple #[.int .u32 0, .int .i64 4] := hdep 2 80 (by kernel_rfl) rfl
        refine wp_same (.tmp 80) (.inr rfl) ?_
        exact hK _ _ hS (Below.refl _ _) e
      refine Steps.cons (fun d hd a u hS hdep hoth K hK => ?_) ?_
      · have e : a.eval (.tmp 77) = .tuple #[.int .u32 0, .int .i64 4] := hdep 3 77 (by kernel_rfl) rfl
        simp [Act.eval] at e
        go_simp
        exact hK _ _ hS (Below.refl _ _) rfl
      refine Steps.cons (fun d hd a u hS hdep hoth K hK => ?_) ?_
      · have e : a.eval (.tmp 77) = .tuple #[.int .u32 0, .int .i64 4] := hdep 3 77 (by kernel_rfl) rfl
        simp [Act.eval] at e
        go_simp
        exact hK _ _ hS (Below.refl _ _) rfl
      refine Steps.cons (fun d hd a u hS hdep hoth K hK => ?_) ?_
      · have e : a.eval (.tmp 81) = .int .u32 0 := hdep 4 81 (by kernel_rfl) rfl
        refine wp_same (.tmp 81) (.inl rfl) ?_
        exact hK _ _ hS (Below.refl _ _) e
      refine Steps.cons (fun d hd a u hS hdep hoth K hK => ?_) ?_
      · have e : a.eval (.tmp 82) = .int .i64 4 := hdep 5 82 (by kernel_rfl) rfl
        refine wp_same (.tmp 82) (.inl rfl) ?_
        exact hK _ _ hS (Below.refl _ _) e
      exact trivial
    case en =>
      have eA : V 6 = .int .u32 0 := hV 6 17 rfl
      have eB : V 7 = .int .i64 4 := hV 7 18 rfl
      clear hV
      simp only [putL, Act.put, List.setIfInBounds_toArray, List.set_cons_zero, List.set_cons_succ, Nat.zero_add, Nat.reduceAdd]
      rw [eA, eB]
      obtain ⟨y13, hy13⟩ : ∃ x, x = W' := ⟨_, rfl⟩
      rw [← hy13] at hW ⊢
      clear hy13 eA eB
      replace hT := Blk.mv hT hW
      replace RZ := RZ.mv hW
      replace hB := hB.trans (hW.mono hB.size)
      clear hW
      go_wp2_with fail
      refine inv_go (prL [mV (.agg (arr .u32 256 el)), mV (.slice (some ⟨GZ, 0, none⟩) 200001 200001), mV (.slice (some ⟨GZ, 0, none⟩) 100000 200001), mV (.slice (some ⟨GZ, 0, none⟩) 200001 200001), mV (.slice (some ⟨GZ, 0, none⟩) 100001 200001), mBB 2 [zr 100000, zr 100001], mV (.tuple #[.int .u32 0, .int .i64 4]), mV (.tuple #[.int .u32 0, .int .i64 4]), mV (.int .u32 0), mV (.int .i64 4), mV (.int .u32 0), mV (.int .i64 4)]) [84, 85, 86, 87, 88, 89, 90, 83, 91, 92, 19, 20] (by kernel_rfl) (by kernel_rfl) (prL_mv (by intro q hq; simp only [List.mem_cons, List.mem_nil_iff, or_false] at hq; rcases hq with rfl | rfl | rfl | rfl | rfl | rfl | rfl | rfl | rfl | rfl | rfl | rfl <;> first | exact mV_mono _ | exact mBB_mono _ _)) (fun x hx => ?st) (fun V W' hW hV => ?en)
      case st =>
        refine Steps.cons (fun d hd a u hS hdep hoth K hK => ?_) ?_
        · refine wp_load_row 23 (.tmp 1) rfl G0 (hoth 1 (by decide)) 23 _ (0, 0) _ (Blk.mv (Blk.mv hT hx) hS) Try.underlying23 rfl (tab_sized _) ?_
          exact hK _ _ hS (Below.refl _ _) rfl
        refine Steps.cons (fun d hd a u hS hdep hoth K hK => ?_) ?_
        · refine wp_same (.tmp 2) (.inr rfl) ?_
          exact hK _ _ hS (Below.refl _ _) (hoth 2 (by decide))
        refine Steps.cons (fun d hd a u hS hdep hoth K hK => ?_) ?_
        · have e : a.eval (.tmp 85) = .slice (some ⟨GZ, 0, none⟩) 200001 200001 := hdep 1 85 (by kernel_rfl) rfl
          simp [Act.eval] at e
          have KS := slice_h0 GZ 200001 200001 100000 (by omega) (by omega) u
          go_simp
          exact hK _ _ hS (Below.refl _ _) rfl
        refine Steps.cons (fun d hd a u hS hdep hoth K hK => ?_) ?_
        · refine wp_same (.tmp 2) (.inr rfl) ?_
          exact hK _ _ hS (Below.refl _ _) (hoth 2 (by decide))
        refine Steps.cons (fun d hd a u hS hdep hoth K hK => ?_) ?_
        · have e : a.eval (.tmp 87) = .slice (some ⟨GZ, 0, none⟩) 200001 200001 := hdep 3 87 (by kernel_rfl) rfl
          simp [Act.eval] at e
          have KS := slice_h0 GZ 200001 200001 100001 (by omega) (by omega) u
          go_simp
          exact hK _ _ hS (Below.refl _ _) rfl
        refine Steps.cons (fun d hd a u hS hdep hoth K hK => ?_) ?_
        · have e1 : a.eval (.tmp 86) = .slice (some ⟨GZ, 0, none⟩) 100000 200001 := hdep 2 86 (by kernel_rfl) rfl
          have e2 : a.eval (.tmp 88) = .slice (some ⟨GZ, 0, none⟩) 100001 200001 := hdep 4 88 (by kernel_rfl) rfl
          refine wp_row1 slBB 2 _ rfl [.slice (some ⟨GZ, 0, none⟩) 100000 200001, .slice (some ⟨GZ, 0, none⟩) 100001 200001] (by simp [List.zipIdx, e1, e2]) (by simp [Value.cells]) rfl (by omega) (by omega) ?_
          exact hK _ _ (st_al hS _).1 (st_al hS _).2 ⟨_, rfl, rbb_two (rb_pre (Reads.mv (Reads.mv RZ hx) hS) (by omega)) (rb_pre (Reads.mv (Reads.mv RZ hx) hS) (by omega)) (by omega)⟩
        refine Steps.cons (fun d hd a u hS hdep hoth K hK => ?_) ?_
        · have e1 : a.eval (.tmp 84) = .agg (arr .u32 256 el) := hdep 0 84 (by kernel_rfl) rfl
          obtain ⟨g, e2, hR⟩ := hdep 5 89 (by kernel_rfl) rfl
          simp [Act.eval] at e1 e2
          go_simp
          refine (pieces_is u hR (by omega) pc_big).mono ?_
          rintro e_ u' ⟨rfl, b⟩
          exact hK _ _ (Below.trans hS (b.mono (Below.size hS))) b rfl
        refine Steps.cons (fun d hd a u hS hdep hoth K hK => ?_) ?_
        · have e : a.eval (.tmp 90) = .tuple #[.int .u32 0, .int .i64 4] := hdep 6 90 (by kernel_rfl) rfl
          refine wp_same (.tmp 90) (.inr rfl) ?_
          exact hK _ _ hS (Below.refl _ _) e
        refine Steps.cons (fun d hd a u hS hdep hoth K hK => ?_) ?_
        · have e : a.eval (.tmp 83) = .tuple #[.int .u32 0, .int .i64 4] := hdep 7 83 (by kernel_rfl) rfl
          simp [Act.eval] at e
          go_simp
          exact hK _ _ hS (Below.refl _ _) rfl
        refine Steps.cons (fun d hd a u hS hdep hoth K hK => ?_) ?_
        · have e : a.eval (.tmp 83) = .tuple #[.int .u32 0, .int .i64 4] := hdep 7 83 (by kernel_rfl) rfl
          simp [Act.eval] at e
          go_simp
          exact hK _ _ hS (Below.refl _ _) rfl
        refine Steps.cons (fun d hd a u hS hdep hoth K hK => ?_) ?_
        · have e : a.eval (.tmp 91) = .int .u32 0 := hdep 8 91 (by kernel_rfl) rfl
          refine wp_same (.tmp 91) (.inl rfl) ?_
          exact hK _ _ hS (Below.refl _ _) e
        refine Steps.cons (fun d hd a u hS hdep hoth K hK => ?_) ?_
        · have e : a.eval (.tmp 92) = .int .i64 4 := hdep 9 92 (by kernel_rfl) rfl
          refine wp_same (.tmp 92) (.inl rfl) ?_
          exact hK _ _ hS (Below.refl _ _) e
        exact trivial
      case en =>
        have eA : V 10 = .int .u32 0 := hV 10 19 rfl
        have eB : V 11 = .int .i64 4 := hV 11 20 rfl
        clear hV
        simp only [putL, Act.put, List.setIfInBounds_toArray, List.set_cons_zero, List.set_cons_succ, Nat.zero_add, Nat.reduceAdd]
        rw [eA, eB]
        obtain ⟨y14, hy14⟩ : ∃ x, x = W' := ⟨_, rfl⟩
        rw [← hy14] at hW ⊢
        clear hy14 eA eB
        replace hT := Blk.mv hT hW
        replace RZ := RZ.mv hW
        replace hB := hB.trans (hW.mono hB.size)
        clear hW
        go_wp2_with fail
        refine inv_go (prL [mV (.agg (arr .u32 256 el)), mBB 64 (List.replicate 64 []), mV (.tuple #[.int .u32 0, .int .i64 0]), mV (.tuple #[.int .u32 0, .int .i64 0]), mV (.int .u32 0), mV (.int .i64 0), mV (.int .u32 0), mV (.int .i64 0)]) [94, 95, 96, 93, 97, 98, 21, 22] (by kernel_rfl) (by kernel_rfl) (prL_mv (by intro q hq; simp only [List.mem_cons, List.mem_nil_iff, or_false] at hq; rcases hq with rfl | rfl | rfl | rfl | rfl | rfl | rfl | rfl <;> first | exact mV_mono _ | exact mBB_mono _ _)) (fun x hx => ?st) (fun V W' hW hV => ?en)
        case st =>
          refine Steps.cons (fun d hd a u hS hdep hoth K hK => ?_) ?_
          · refine wp_load_row 23 (.tmp 1) rfl G0 (hoth 1 (by decide)) 23 _ (0, 0) _ (Blk.mv (Blk.mv hT hx) hS) Try.underlying23 rfl (tab_sized _) ?_
            exact hK _ _ hS (Below.refl _ _) rfl
          refine Steps.cons (fun d hd a u hS hdep hoth K hK => ?_) ?_
          · refine wp_mk (.const (.int .i64 64)) (.const (.int .i64 64)) rfl slBB 64 rfl rfl rfl rfl (by omega) ?_
            intro u' o2 b2
            rw [show (Value.slice none 0 0).cells = #[Value.slice none 0 0] from rfl, Nat.mul_one, toList_madeCells_one] at o2
            exact hK _ _ (Below.trans hS (b2.mono (Below.size hS))) b2 ⟨_, rfl, rbb_zeros o2⟩
          refine Steps.cons (fun d hd a u hS hdep hoth K hK => ?_) ?_
          · have e1 : a.eval (.tmp 94) = .agg (arr .u32 256 el) := hdep 0 94 (by kernel_rfl) rfl
            obtain ⟨g, e2, hR⟩ := hdep 1 95 (by kernel_rfl) rfl
            simp [Act.eval] at e1 e2
            go_simp
            refine (pieces_is u hR (by omega) pc_64).mono ?_
            rintro e_ u' ⟨rfl, b⟩
            exact hK _ _ (Below.trans hS (b.mono (Below.size hS))) b rfl
          refine Steps.cons (fun d hd a u hS hdep hoth K hK => ?_) ?_
          · have e : a.eval (.tmp 96) = .tuple #[.int .u32 0, .int .i64 0] := hdep 2 96 (by kernel_rfl) rfl
            refine wp_same (.tmp 96) (.inr rfl) ?_
            exact hK _ _ hS (Below.refl _ _) e
          refine Steps.cons (fun d hd a u hS hdep hoth K hK => ?_) ?_
          · have e : a.eval (.tmp 93) = .tuple #[.int .u32 0, .int .i64 0] := hdep 3 93 (by kernel_rfl) rfl
            simp [Act.eval] at e
            go_simp
            exact hK _ _ hS (Below.refl _ _) rfl
          refine Steps.cons (fun d hd a u hS hdep hoth K hK => ?_) ?_
          · have e : a.eval (.tmp 93) = .tuple #[.int .u32 0, .int .i64 0] := hdep 3 93 (by kernel_rfl) rfl
            simp [Act.eval] at e
            go_simp
            exact hK _ _ hS (Below.refl _ _) rfl
          refine Steps.cons (fun d hd a u hS hdep hoth K hK => ?_) ?_
          · have e : a.eval (.tmp 97) = .int .u32 0 := hdep 4 97 (by kernel_rfl) rfl
            refine wp_same (.tmp 97) (.inl rfl) ?_
            exact hK _ _ hS (Below.refl _ _) e
          refine Steps.cons (fun d hd a u hS hdep hoth K hK => ?_) ?_
          · have e : a.eval (.tmp 98) = .int .i64 0 := hdep 5 98 (by kernel_rfl) rfl
            refine wp_same (.tmp 98) (.inl rfl) ?_
            exact hK _ _ hS (Below.refl _ _) e
          exact trivial
        case en =>
          have eA : V 6 = .int .u32 0 := hV 6 21 rfl
          have eB : V 7 = .int .i64 0 := hV 7 22 rfl
          clear hV
          simp only [putL, Act.put, List.setIfInBounds_toArray, List.set_cons_zero, List.set_cons_succ, Nat.zero_add, Nat.reduceAdd]
          rw [eA, eB]
          obtain ⟨y15, hy15⟩ : ∃ x, x = W' := ⟨_, rfl⟩
          rw [← hy15] at hW ⊢
          clear hy15 eA eB
          replace hT := Blk.mv hT hW
          replace RZ := RZ.mv hW
          replace hB := hB.trans (hW.mono hB.size)
          clear hW
          go_wp2_with fail
          refine inv_go (prL [mV (.agg (arr .u32 256 el)), mV (.slice (some ⟨GZ, 0, none⟩) 200001 200001), mV (.slice (some ⟨GZ, 0, none⟩) 100000 200001), mV (.slice (some ⟨GZ, 0, none⟩) 200001 200001), mV (.slice (some ⟨GZ, 0, none⟩) 100000 200001), mBB 2 [zr 100000, zr 100000], mV (.tuple #[.int .u32 (XW : Int), .int .i64 0]), mV (.tuple #[.int .u32 (XW : Int), .int .i64 0]), mV (.int .u32 (XW : Int)), mV (.int .i64 0), mV (.int .u32 (XW : Int)), mV (.int .i64 0)]) [100, 101, 102, 103, 104, 105, 106, 99, 107, 108, 23, 24] (by kernel_rfl) (by kernel_rfl) (prL_mv (by intro q hq; simp only [List.mem_cons, List.mem_nil_iff, or_false] at hq; rcases hq with rfl | rfl | rfl | rfl | rfl | rfl | rfl | rfl | rfl | rfl | rfl | rfl <;> first | exact mV_mono _ | exact mBB_mono _ _)) (fun x hx => ?st) (fun V W' hW hV => ?en)
          case st =>
            refine Steps.cons (fun d hd a u hS hdep hoth K hK => ?_) ?_
            · refine wp_load_row 23 (.tmp 1) rfl G0 (hoth 1 (by decide)) 23 _ (0, 0) _ (Blk.mv (Blk.mv hT hx) hS) Try.underlying23 rfl (tab_sized _) ?_
              exact hK _ _ hS (Below.refl _ _) rfl
            refine Steps.cons (fun d hd a u hS hdep hoth K hK => ?_) ?_
            · refine wp_same (.tmp 2) (.inr rfl) ?_
              exact hK _ _ hS (Below.refl _ _) (hoth 2 (by decide))
            refine Steps.cons (fun d hd a u hS hdep hoth K hK => ?_) ?_
            · have e : a.eval (.tmp 101) = .slice (some ⟨GZ, 0, none⟩) 200001 200001 := hdep 1 101 (by kernel_rfl) rfl
              simp [Act.eval] at e
              have KS := slice_h0 GZ 200001 200001 100000 (by omega) (by omega) u
              go_simp
              exact hK _ _ hS (Below.refl _ _) rfl
            refine Steps.cons (fun d hd a u hS hdep hoth K hK => ?_) ?_
            · refine wp_same (.tmp 2) (.inr rfl) ?_
              exact hK _ _ hS (Below.refl _ _) (hoth 2 (by decide))
            refine Steps.cons (fun d hd a u hS hdep hoth K hK => ?_) ?_
            · have e : a.eval (.tmp 103) = .slice (some ⟨GZ, 0, none⟩) 200001 200001 := hdep 3 103 (by kernel_rfl) rfl
              simp [Act.eval] at e
              have KS := slice_h0 GZ 200001 200001 100000 (by omega) (by omega) u
              go_simp
              exact hK _ _ hS (Below.refl _ _) rfl
            refine Steps.cons (fun d hd a u hS hdep hoth K hK => ?_) ?_
            · have e1 : a.eval (.tmp 102) = .slice (some ⟨GZ, 0, none⟩) 100000 200001 := hdep 2 102 (by kernel_rfl) rfl
              have e2 : a.eval (.tmp 104) = .slice (some ⟨GZ, 0, none⟩) 100000 200001 := hdep 4 104 (by kernel_rfl) rfl
              refine wp_row1 slBB 2 _ rfl [.slice (some ⟨GZ, 0, none⟩) 100000 200001, .slice (some ⟨GZ, 0, none⟩) 100000 200001] (by simp [List.zipIdx, e1, e2]) (by simp [Value.cells]) rfl (by omega) (by omega) ?_
              exact hK _ _ (st_al hS _).1 (st_al hS _).2 ⟨_, rfl, rbb_two (rb_pre (Reads.mv (Reads.mv RZ hx) hS) (by omega)) (rb_pre (Reads.mv (Reads.mv RZ hx) hS) (by omega)) (by omega)⟩
            refine Steps.cons (fun d hd a u hS hdep hoth K hK => ?_) ?_
            · have e1 : a.eval (.tmp 100) = .agg (arr .u32 256 el) := hdep 0 100 (by kernel_rfl) rfl
              obtain ⟨g, e2, hR⟩ := hdep 5 105 (by kernel_rfl) rfl
              simp [Act.eval] at e1 e2
              go_simp
              refine (pieces_is u hR (by omega) pc_most).mono ?_
              rintro e_ u' ⟨rfl, b⟩
              exact hK _ _ (Below.trans hS (b.mono (Below.size hS))) b rfl
            refine Steps.cons (fun d hd a u hS hdep hoth K hK => ?_) ?_
            · have e : a.eval (.tmp 106) = .tuple #[.int .u32 (XW : Int), .int .i64 0] := hdep 6 106 (by kernel_rfl) rfl
              refine wp_same (.tmp 106) (.inr rfl) ?_
              exact hK _ _ hS (Below.refl _ _) e
            refine Steps.cons (fun d hd a u hS hdep hoth K hK => ?_) ?_
            · have e : a.eval (.tmp 99) = .tuple #[.int .u32 (XW : Int), .int .i64 0] := hdep 7 99 (by kernel_rfl) rfl
              simp [Act.eval] at e
              go_simp
              exact hK _ _ hS (Below.refl _ _) rfl
            refine Steps.cons (fun d hd a u hS hdep hoth K hK => ?_) ?_
            · have e : a.eval (.tmp 99) = .tuple #[.int .u32 (XW : Int), .int .i64 0] := hdep 7 99 (by kernel_rfl) rfl
              simp [Act.eval] at e
              go_simp
              exact hK _ _ hS (Below.refl _ _) rfl
            refine Steps.cons (fun d hd a u hS hdep hoth K hK => ?_) ?_
            · have e : a.eval (.tmp 107) = .int .u32 (XW : Int) := hdep 8 107 (by kernel_rfl) rfl
              refine wp_same (.tmp 107) (.inl rfl) ?_
              exact hK _ _ hS (Below.refl _ _) e
            refine Steps.cons (fun d hd a u hS hdep hoth K hK => ?_) ?_
            · have e : a.eval (.tmp 108) = .int .i64 0 := hdep 9 108 (by kernel_rfl) rfl
              refine wp_same (.tmp 108) (.inl rfl) ?_
              exact hK _ _ hS (Below.refl _ _) e
            exact trivial
          case en =>
            have eA : V 10 = .int .u32 (XW : Int) := hV 10 23 rfl
            have eB : V 11 = .int .i64 0 := hV 11 24 rfl
            clear hV
            simp only [putL, Act.put, List.setIfInBounds_toArray, List.set_cons_zero, List.set_cons_succ, Nat.zero_add, Nat.reduceAdd]
            rw [eA, eB]
            obtain ⟨y16, hy16⟩ : ∃ x, x = W' := ⟨_, rfl⟩
            rw [← hy16] at hW ⊢
            clear hy16 eA eB
            replace hT := Blk.mv hT hW
            replace RZ := RZ.mv hW
            replace hB := hB.trans (hW.mono hB.size)
            clear hW
            go_wp2_with fail
            refine inv_go (prL [mV (.agg (arr .u32 256 el)), mV (.slice (some ⟨GZ, 0, none⟩) 200001 200001), mV (.slice (some ⟨GZ, 0, none⟩) 200000 200001), mV (.tuple #[.int .u32 (XW : Int), .int .i64 0]), mV (.tuple #[.int .u32 (XW : Int), .int .i64 0]), mV (.int .u32 (XW : Int)), mV (.int .i64 0), mV (.int .u32 (XW : Int)), mV (.int .i64 0)]) [110, 111, 112, 113, 109, 114, 115, 25, 26] (by kernel_rfl) (by kernel_rfl) (prL_mv (by intro q hq; simp only [List.mem_cons, List.mem_nil_iff, or_false] at hq; rcases hq with rfl | rfl | rfl | rfl | rfl | rfl | rfl | rfl | rfl <;> first | exact mV_mono _ | exact mBB_mono _ _)) (fun x hx => ?st) (fun V W' hW hV => ?en)
            case st =>
              refine Steps.cons (fun d hd a u hS hdep hoth K hK => ?_) ?_
              · refine wp_load_row 23 (.tmp 1) rfl G0 (hoth 1 (by decide)) 23 _ (0, 0) _ (Blk.mv (Blk.mv hT hx) hS) Try.underlying23 rfl (tab_sized _) ?_
                exact hK _ _ hS (Below.refl _ _) rfl
              refine Steps.cons (fun d hd a u hS hdep hoth K hK => ?_) ?_
              · refine wp_same (.tmp 2) (.inr rfl) ?_
                exact hK _ _ hS (Below.refl _ _) (hoth 2 (by decide))
              refine Steps.cons (fun d hd a u hS hdep hoth K hK => ?_) ?_
              · have e : a.eval (.tmp 111) = .slice (some ⟨GZ, 0, none⟩) 200001 200001 := hdep 1 111 (by kernel_rfl) rfl
                simp [Act.eval] at e
                have KS := slice_h0 GZ 200001 200001 200000 (by omega) (by omega) u
                go_simp
                exact hK _ _ hS (Below.refl _ _) rfl
              refine Steps.cons (fun d hd a u hS hdep hoth K hK => ?_) ?_
              · have e1 : a.eval (.tmp 110) = .agg (arr .u32 256 el) := hdep 0 110 (by kernel_rfl) rfl
                have e2 : a.eval (.tmp 112) = .slice (some ⟨GZ, 0, none⟩) 200000 200001 := hdep 2 112 (by kernel_rfl) rfl
                simp [Act.eval] at e1 e2
                go_simp
                refine (sum_whole u (rb_pre (Reads.mv (Reads.mv RZ hx) hS) (by omega))).mono ?_
                rintro e_ u' ⟨rfl, b⟩
                exact hK _ _ (Below.trans hS (b.mono (Below.size hS))) b rfl
              refine Steps.cons (fun d hd a u hS hdep hoth K hK => ?_) ?_
              · have e : a.eval (.tmp 113) = .tuple #[.int .u32 (XW : Int), .int .i64 0] := hdep 3 113 (by kernel_rfl) rfl
                refine wp_same (.tmp 113) (.inr rfl) ?_
                exact hK _ _ hS (Below.refl _ _) e
              refine Steps.cons (fun d hd a u hS hdep hoth K hK => ?_) ?_
              · have e : a.eval (.tmp 109) = .tuple #[.int .u32 (XW : Int), .int .i64 0] := hdep 4 109 (by kernel_rfl) rfl
                simp [Act.eval] at e
                go_simp
                exact hK _ _ hS (Below.refl _ _) rfl
              refine Steps.cons (fun d hd a u hS hdep hoth K hK => ?_) ?_
              · have e : a.eval (.tmp 109) = .tuple #[.int .u32 (XW : Int), .int .i64 0] := hdep 4 109 (by kernel_rfl) rfl
                simp [Act.eval] at e
                go_simp
                exact hK _ _ hS (Below.refl _ _) rfl
              refine Steps.cons (fun d hd a u hS hdep hoth K hK => ?_) ?_
              · have e : a.eval (.tmp 114) = .int .u32 (XW : Int) := hdep 5 114 (by kernel_rfl) rfl
                refine wp_same (.tmp 114) (.inl rfl) ?_
                exact hK _ _ hS (Below.refl _ _) e
              refine Steps.cons (fun d hd a u hS hdep hoth K hK => ?_) ?_
              · have e : a.eval (.tmp 115) = .int .i64 0 := hdep 6 115 (by kernel_rfl) rfl
                refine wp_same (.tmp 115) (.inl rfl) ?_
                exact hK _ _ hS (Below.refl _ _) e
              exact trivial
            case en =>
              have eA : V 7 = .int .u32 (XW : Int) := hV 7 25 rfl
              have eB : V 8 = .int .i64 0 := hV 8 26 rfl
              clear hV
              simp only [putL, Act.put, List.setIfInBounds_toArray, List.set_cons_zero, List.set_cons_succ, Nat.zero_add, Nat.reduceAdd]
              rw [eA, eB]
              obtain ⟨y17, hy17⟩ : ∃ x, x = W' := ⟨_, rfl⟩
              rw [← hy17] at hW ⊢
              clear hy17 eA eB
              replace hT := Blk.mv hT hW
              replace RZ := RZ.mv hW
              replace hB := hB.trans (hW.mono hB.size)
              clear hW
              clear RZ
              go_wp2_with (refine wpList_load_blk rfl 23 _ rfl G0 rfl hT Try.underlying23 rfl (tab_sized _) ?_)
              refine (join_neg (.int .u32 1) (.int .u32 1) y17).mono ?_
              rintro e y18 ⟨rfl, b_⟩
              replace hT := Blk.mv hT b_
              replace hB := hB.trans (b_.mono hB.size)
              clear b_
              go_wp2_with (refine wpList_load_blk rfl 23 _ rfl G0 rfl hT Try.underlying23 rfl (tab_sized _) ?_)
              refine (join_big (.int .u32 1) (.int .u32 1) y18).mono ?_
              rintro e y19 ⟨rfl, b_⟩
              replace hT := Blk.mv hT b_
              replace hB := hB.trans (b_.mono hB.size)
              clear b_
              go_wp2_with (refine wpList_load_blk rfl 23 _ rfl G0 rfl hT Try.underlying23 rfl (tab_sized _) ?_)
              refine (join_77 y19).mono ?_
              rintro e y20 ⟨rfl, b_⟩
              replace hT := Blk.mv hT b_
              replace hB := hB.trans (b_.mono hB.size)
              clear b_
              have RL : Rb (y20.alloc (.cells #[.int .u8 0] 5)) (some ⟨y20.heap.size, 0, none⟩) 1 [0] := reads_bytes y20 [0] 5
              go_wp2_with (refine wpList_load_blk rfl 23 _ rfl G0 rfl hT Try.underlying23 rfl (tab_sized _) ?_)
              have b_ := (Below.refl y20.heap.size y20).alloc (Nat.le_refl _) (.cells #[.int .u8 0] 5)
              replace hT := Blk.mv hT b_
              replace hB := hB.trans (b_.mono hB.size)
              clear b_
              refine (sum_zero _ RL).mono ?_
              rintro e y21 ⟨rfl, b_⟩
              replace hT := Blk.mv hT b_
              replace hB := hB.trans (b_.mono hB.size)
              clear b_
              clear RL
              go_wp2_with fail
              refine (alive_any y21).mono ?_
              rintro e y22 ⟨rfl, b_⟩
              replace hT := Blk.mv hT b_
              replace hB := hB.trans (b_.mono hB.size)
              clear b_
              go_wp2_with fail
              go_ret
              exact ⟨rfl, hB⟩

end Go.Proofs.Ytldaijkcmnnjpaa
