/- The walk of MemoryNames. No conditions. -/
import Derived.Test.YtldaijkcmnnjpaaMemNm
import Derived.BigQuiet
namespace Go.Proofs.Ytldaijkcmnnjpaa
open Go.RowKit Wire
set_option linter.unusedVariables false

set_option maxRecDepth 100000 in
set_option maxHeartbeats 8000000 in
theorem memoryNames_walk (w : World) :
    Calls Try.prog 6 #[] w fun e w' => e = .returned (.bool true) ∧ Below w.heap.size w w' := by
  go_enter Try.func6, Try.ntmps6
  have hB : Below w.heap.size w w := Below.refl _ _
  go_wp2_with fail
  refine (two_at w).mono ?_
  rintro e y1 ⟨g2, g3, rfl, R2, hQ, b_⟩
  replace hB := hB.trans (b_.mono hB.size)
  clear b_
  have hH := Blk.new y1 75 #[.int .u64 65536, .slice none 0 0]
  have b_ := (Below.refl y1.heap.size y1).alloc (Nat.le_refl _) (.cells #[.int .u64 65536, .slice none 0 0] 75)
  replace R2 := R2.mv b_
  replace hQ := Blk.mv hQ b_
  replace hB := hB.trans (b_.mono hB.size)
  clear b_
  go_wp2_with fail
  generalize (y1.alloc (.cells #[.int .u64 65536, .slice none 0 0] 75)) = y2 at *
  generalize y1.heap.size = GH at hH ⊢
  refine inv_go pr2 [56, 57, 58, 59, 60, 61, 62, 3] (by kernel_rfl) (by kernel_rfl) pr2_mv (fun x hx => ?st) (fun V W' hW hV => ?en)
  case st =>
    refine Steps.cons (fun d hd a u hS hdep hoth K hK => ?_) ?_
    · refine wp_bld 75 _ rfl [] (by simp) #[.int .u64 0, .slice none 0 0] (by kernel_rfl) ?_
      exact hK _ _ hS (Below.refl _ _) rfl
    refine Steps.cons (fun d hd a u hS hdep hoth K hK => ?_) ?_
    · refine wp_bld 75 _ rfl [(0, .int .u64 65544)] (by simp [ev_const]) #[.int .u64 65544, .slice none 0 0] (by kernel_rfl) ?_
      exact hK _ _ hS (Below.refl _ _) rfl
    refine Steps.cons (fun d hd a u hS hdep hoth K hK => ?_) ?_
    · refine wp_mk (.const (.int .i64 4)) (.const (.int .i64 4)) rfl sl8 4 rfl rfl rfl rfl (by omega) ?_
      intro u' o2 b2
      rw [show (Value.int .u8 0).cells = #[Value.int .u8 0] from rfl, Nat.mul_one, toList_madeCells_one] at o2
      exact hK _ _ (Below.trans hS (b2.mono (Below.size hS))) b2 ⟨_, rfl, rb_zeros o2⟩
    refine Steps.cons (fun d hd a u hS hdep hoth K hK => ?_) ?_
    · obtain ⟨g, hv, hR⟩ := hdep 2 58 (by kernel_rfl) rfl
      refine wp_bld 75 _ rfl [(0, .int .u64 65536), (1, .slice (some ⟨g, 0, none⟩) 4 4)] (by simp [ev_const, hv]) #[.int .u64 65536, .slice (some ⟨g, 0, none⟩) 4 4] (by kernel_rfl) ?_
      exact hK _ _ hS (Below.refl _ _) ⟨g, rfl, hR⟩
    refine Steps.cons (fun d hd a u hS hdep hoth K hK => ?_) ?_
    · refine wp_mk (.const (.int .i64 16392)) (.const (.int .i64 16392)) rfl sl8 16392 rfl rfl rfl rfl (by omega) ?_
      intro u' o2 b2
      rw [show (Value.int .u8 0).cells = #[Value.int .u8 0] from rfl, Nat.mul_one, toList_madeCells_one] at o2
      exact hK _ _ (Below.trans hS (b2.mono (Below.size hS))) b2 ⟨_, rfl, rb_zeros o2⟩
    refine Steps.cons (fun d hd a u hS hdep hoth K hK => ?_) ?_
    · obtain ⟨g, hv, hR⟩ := hdep 4 60 (by kernel_rfl) rfl
      refine wp_bld 75 _ rfl [(0, .int .u64 65536), (1, .slice (some ⟨g, 0, none⟩) 16392 16392)] (by simp [ev_const, hv]) #[.int .u64 65536, .slice (some ⟨g, 0, none⟩) 16392 16392] (by kernel_rfl) ?_
      exact hK _ _ hS (Below.refl _ _) ⟨g, rfl, hR⟩
    refine Steps.cons (fun d hd a u hS hdep hoth K hK => ?_) ?_
    · have e0 : a.eval (.tmp 56) = rgn 0 none 0 0 := hdep 0 56 (by kernel_rfl) rfl
      have e1 : a.eval (.tmp 57) = rgn 65544 none 0 0 := hdep 1 57 (by kernel_rfl) rfl
      obtain ⟨g0, e2, h0⟩ := hdep 3 59 (by kernel_rfl) rfl
      obtain ⟨g1, e3, h1⟩ := hdep 5 61 (by kernel_rfl) rfl
      refine wp_rowS slG 4 _ rfl [rgn 0 none 0 0, rgn 65544 none 0 0, rgn 65536 (some ⟨g0, 0, none⟩) 4 4, rgn 65536 (some ⟨g1, 0, none⟩) 16392 16392] (by simp [List.zipIdx, e0, e1, e2, e3]) (by simp [Value.cells]) rfl (by omega) (by omega) (by omega) #[.int .u64 0, .slice none 0 0, .int .u64 65544, .slice none 0 0, .int .u64 65536, .slice (some ⟨g0, 0, none⟩) 4 4, .int .u64 65536, .slice (some ⟨g1, 0, none⟩) 16392 16392] rfl ?_
      refine hK _ _ (st_al hS _).1 (st_al hS _).2 ⟨_, rfl, fun j hj => ?_⟩
      have hq := Blk.new u 75 #[.int .u64 0, .slice none 0 0, .int .u64 65544, .slice none 0 0, .int .u64 65536, .slice (some ⟨g0, 0, none⟩) 4 4, .int .u64 65536, .slice (some ⟨g1, 0, none⟩) 16392 16392]
      have hl := hq.lt
      rcases j with _ | _ | _ | _ | j
      · exact ⟨0, none, 0, [], (hq.cell 0).trans rfl, (hq.cell 1).trans rfl, hl, by omega, Reads.none_, by omega, by decide⟩
      · exact ⟨65544, none, 0, [], (hq.cell 2).trans rfl, (hq.cell 3).trans rfl, hl, by omega, Reads.none_, by omega, by decide⟩
      · exact ⟨65536, _, 4, _, (hq.cell 4).trans rfl, (hq.cell 5).trans rfl, hl, by omega, Reads.mv h0 (st_al hS _).2, by omega, hp_4⟩
      · exact ⟨65536, _, 16392, _, (hq.cell 6).trans rfl, (hq.cell 7).trans rfl, hl, by omega, Reads.mv h1 (st_al hS _).2, by omega, hp_16392⟩
      · omega
    refine Steps.cons (fun d hd a u hS hdep hoth K hK => ?_) ?_
    · refine wp_same (.tmp 62) (.inl rfl) ?_
      exact hK _ _ hS (Below.refl _ _) (hdep 6 62 (by kernel_rfl) rfl)
    exact trivial
  case en =>
    obtain ⟨gT, hv, HTH⟩ := hV 7 3 rfl
    clear hV
    simp only [putL, Act.put, List.setIfInBounds_toArray, List.set_cons_zero, List.set_cons_succ, Nat.zero_add, Nat.reduceAdd]
    rw [hv]
    replace R2 := R2.mv hW
    replace hQ := Blk.mv hQ hW
    replace hH := Blk.mv hH hW
    replace hB := hB.trans (hW.mono hB.size)
    clear hW hv
    have HTH := Lib.hid HTH
    go_wp2_with fail
    have HB0 := Lib.hid hB
    clear hB
    go_loopw [4] (fun i wr => ∃ j : Nat, j ≤ 4 ∧ i = .int .i64 (j : Int) ∧ Below W'.heap.size W' wr) (fun i _ => 4 - (intOf i).toNat)
    case atStart => exact ⟨0, by omega, rfl, Below.refl _ _⟩
    case round =>
      obtain ⟨j, hj, rfl, hC⟩ := hrel
      by_cases hlt : j < 4
      · have hB := hC
        obtain ⟨b, A, n, l, k0, k1, plt, hn, R, hb, hbad⟩ := (HTH.out.mv hC) j hlt
        have RT := R2.mv hC
        have hz : (hpB b l.length && stB twL) = false := by rw [hbad]; rfl
        go_wp2_with fail
        refine (bad_wh _ R hbad).mono ?_
        rintro e y3 ⟨⟨A1, c1, rfl⟩, b_⟩
        replace k0 := (b_.cell (p := ⟨gT, j * 2, none⟩) plt).trans k0
        replace k1 := (b_.cell (p := ⟨gT, j * 2 + 1, none⟩) plt).trans k1
        replace plt := Nat.lt_of_lt_of_le plt b_.size
        replace R := R.mv b_
        replace RT := RT.mv b_
        replace hB := hB.trans (b_.mono hB.size)
        clear b_
        go_wp2_with fail
        refine (word_is _ R (by omega) hb RT (by omega) 0 (by omega) 0 8 (no_word hz 0).1 (no_word hz 0).2).mono ?_
        rintro e y4 ⟨rfl, b_⟩
        replace k0 := (b_.cell (p := ⟨gT, j * 2, none⟩) plt).trans k0
        replace k1 := (b_.cell (p := ⟨gT, j * 2 + 1, none⟩) plt).trans k1
        replace plt := Nat.lt_of_lt_of_le plt b_.size
        replace R := R.mv b_
        replace RT := RT.mv b_
        replace hB := hB.trans (b_.mono hB.size)
        clear b_
        go_wp2_with fail
        refine (bytes_is _ R (by omega) hb RT (by omega) 0 (by omega) (-1) [] 8 (no_bytes hz 0 (-1)).1 (no_bytes hz 0 (-1)).2).mono ?_
        rintro e y5 ⟨A3, c3, rfl, _, b_⟩
        replace k0 := (b_.cell (p := ⟨gT, j * 2, none⟩) plt).trans k0
        replace k1 := (b_.cell (p := ⟨gT, j * 2 + 1, none⟩) plt).trans k1
        replace plt := Nat.lt_of_lt_of_le plt b_.size
        replace R := R.mv b_
        replace RT := RT.mv b_
        replace hB := hB.trans (b_.mono hB.size)
        clear b_
        go_wp2_with fail
        go_roundw
        case rel => exact ⟨j + 1, by omega, by go_num, hB⟩
        case measure => simp [intOf]; omega
      · replace hj : j = 4 := by omega
        subst hj
        (try rw [show ((4 : Nat) : Int) = 4 from rfl])
        replace R2 := R2.mv hC
        replace hQ := Blk.mv hQ hC
        replace hH := Blk.mv hH hC
        have hB := HB0.out.trans (hC.mono HB0.out.size)
        clear HB0 hC
        clear HTH
        go_wp2_with fail
        refine inv_go (pr11 g2) [105, 106, 107, 108, 109, 110, 111, 112, 113, 114, 115, 116, 117, 118, 119, 120, 121, 11] (by kernel_rfl) (by kernel_rfl) (pr11_mv g2) (fun x hx => ?st) (fun V W' hW hV => ?en)
        case st =>
          refine Steps.cons (fun d hd a u hS hdep hoth K hK => ?_) ?_
          · refine wp_mk (.const (.int .i64 17)) (.const (.int .i64 17)) rfl slG 17 rfl rfl rfl rfl (by omega) ?_
            intro u' o2 b2
            exact hK _ _ (Below.trans hS (b2.mono (Below.size hS))) b2 ⟨_, rfl, rdR_zeros o2 (by kernel_rfl)⟩
          refine Steps.cons (fun d hd a u hS hdep hoth K hK => ?_) ?_
          · refine wp_bld 75 _ rfl [(0, .int .u64 33554432)] (by simp [ev_const]) #[.int .u64 33554432, .slice none 0 0] (by kernel_rfl) ?_
            exact hK _ _ hS (Below.refl _ _) rfl
          refine Steps.cons (fun d hd a u hS hdep hoth K hK => ?_) ?_
          · have e0 : a.eval (.tmp 106) = rgn 33554432 none 0 0 := hdep 1 106 (by kernel_rfl) rfl
            refine wp_rowS slG 1 _ rfl [rgn 33554432 none 0 0] (by simp [List.zipIdx, e0]) (by simp [Value.cells]) rfl (by omega) (by omega) (by omega) #[.int .u64 33554432, .slice none 0 0] rfl ?_
            exact hK _ _ (st_al hS _).1 (st_al hS _).2 ⟨_, rfl, rdR_row u [(33554432, none, 0, [])] (by simp [RglOk]; exact Reads.none_) rfl⟩
          refine Steps.cons (fun d hd a u hS hdep hoth K hK => ?_) ?_
          · refine wp_same (.tmp 2) (.inr rfl) ?_
            exact hK _ _ hS (Below.refl _ _) (hoth 2 (by decide))
          refine Steps.cons (fun d hd a u hS hdep hoth K hK => ?_) ?_
          · have e : a.eval (.tmp 108) = .slice (some ⟨g2, 0, none⟩) 2 2 := hdep 3 108 (by kernel_rfl) rfl
            simp [Act.eval] at e
            go_simp
            exact hK _ _ hS (Below.refl _ _) rfl
          refine Steps.cons (fun d hd a u hS hdep hoth K hK => ?_) ?_
          · have e : a.eval (.tmp 109) = .pointer (some ⟨g2, 0, none⟩) := hdep 4 109 (by kernel_rfl) rfl
            have hq : Blk u g2 75 _ := Blk.mv (Blk.mv hQ hx) hS
            have q0 := (hq.cell 0).trans rfl
            have q1 := (hq.cell 1).trans rfl
            replace q0 : u.cell? ⟨g2, 0, none⟩ = some (.int .u64 16777216) := q0
            replace q1 : u.cell? ⟨g2, 1, none⟩ = some (.slice none 0 0) := q1
            simp [Act.eval] at e
            go_simp
            exact hK _ _ hS (Below.refl _ _) rfl
          refine Steps.cons (fun d hd a u hS hdep hoth K hK => ?_) ?_
          · refine wp_same (.tmp 2) (.inr rfl) ?_
            exact hK _ _ hS (Below.refl _ _) (hoth 2 (by decide))
          refine Steps.cons (fun d hd a u hS hdep hoth K hK => ?_) ?_
          · have e : a.eval (.tmp 111) = .slice (some ⟨g2, 0, none⟩) 2 2 := hdep 6 111 (by kernel_rfl) rfl
            simp [Act.eval] at e
            go_simp
            exact hK _ _ hS (Below.refl _ _) rfl
          refine Steps.cons (fun d hd a u hS hdep hoth K hK => ?_) ?_
          · have e : a.eval (.tmp 112) = .pointer (some ⟨g2, 0, none⟩) := hdep 7 112 (by kernel_rfl) rfl
            have hq : Blk u g2 75 _ := Blk.mv (Blk.mv hQ hx) hS
            have q0 := (hq.cell 0).trans rfl
            have q1 := (hq.cell 1).trans rfl
            replace q0 : u.cell? ⟨g2, 0, none⟩ = some (.int .u64 16777216) := q0
            replace q1 : u.cell? ⟨g2, 1, none⟩ = some (.slice none 0 0) := q1
            simp [Act.eval] at e
            go_simp
            exact hK _ _ hS (Below.refl _ _) rfl
          refine Steps.cons (fun d hd a u hS hdep hoth K hK => ?_) ?_
          · have e0 : a.eval (.tmp 110) = rgn 16777216 none 0 0 := hdep 5 110 (by kernel_rfl) rfl
            have e1 : a.eval (.tmp 113) = rgn 16777216 none 0 0 := hdep 8 113 (by kernel_rfl) rfl
            refine wp_rowS slG 2 _ rfl [rgn 16777216 none 0 0, rgn 16777216 none 0 0] (by simp [List.zipIdx, e0, e1]) (by simp [Value.cells]) rfl (by omega) (by omega) (by omega) #[.int .u64 16777216, .slice none 0 0, .int .u64 16777216, .slice none 0 0] rfl ?_
            exact hK _ _ (st_al hS _).1 (st_al hS _).2 ⟨_, rfl, rdR_row u [(16777216, none, 0, []), (16777216, none, 0, [])] (by simp [RglOk]; exact Reads.none_) rfl⟩
          refine Steps.cons (fun d hd a u hS hdep hoth K hK => ?_) ?_
          · refine wp_mk (.const (.int .i64 12)) (.const (.int .i64 12)) rfl sl8 12 rfl rfl rfl rfl (by omega) ?_
            intro u' o2 b2
            rw [show (Value.int .u8 0).cells = #[Value.int .u8 0] from rfl, Nat.mul_one, toList_madeCells_one] at o2
            exact hK _ _ (Below.trans hS (b2.mono (Below.size hS))) b2 ⟨_, rfl, rb_zeros o2⟩
          refine Steps.cons (fun d hd a u hS hdep hoth K hK => ?_) ?_
          · obtain ⟨g, hv, hR⟩ := hdep 10 115 (by kernel_rfl) rfl
            refine wp_bld 75 _ rfl [(0, .int .u64 16777216), (1, .slice (some ⟨g, 0, none⟩) 12 12)] (by simp [ev_const, hv]) #[.int .u64 16777216, .slice (some ⟨g, 0, none⟩) 12 12] (by kernel_rfl) ?_
            exact hK _ _ hS (Below.refl _ _) ⟨g, rfl, hR⟩
          refine Steps.cons (fun d hd a u hS hdep hoth K hK => ?_) ?_
          · obtain ⟨g, e0, h0⟩ := hdep 11 116 (by kernel_rfl) rfl
            refine wp_rowS slG 1 _ rfl [rgn 16777216 (some ⟨g, 0, none⟩) 12 12] (by simp [List.zipIdx, e0]) (by simp [Value.cells]) rfl (by omega) (by omega) (by omega) #[.int .u64 16777216, .slice (some ⟨g, 0, none⟩) 12 12] rfl ?_
            exact hK _ _ (st_al hS _).1 (st_al hS _).2 ⟨_, rfl, rdR_row u [(16777216, some ⟨g, 0, none⟩, 12, zr 12)] (by simp [RglOk]; exact h0) rfl⟩
          refine Steps.cons (fun d hd a u hS hdep hoth K hK => ?_) ?_
          · refine wp_mk (.const (.int .i64 4104)) (.const (.int .i64 4104)) rfl sl8 4104 rfl rfl rfl rfl (by omega) ?_
            intro u' o2 b2
            rw [show (Value.int .u8 0).cells = #[Value.int .u8 0] from rfl, Nat.mul_one, toList_madeCells_one] at o2
            exact hK _ _ (Below.trans hS (b2.mono (Below.size hS))) b2 ⟨_, rfl, rb_zeros o2⟩
          refine Steps.cons (fun d hd a u hS hdep hoth K hK => ?_) ?_
          · obtain ⟨g, hv, hR⟩ := hdep 13 118 (by kernel_rfl) rfl
            refine wp_bld 75 _ rfl [(0, .int .u64 16777216), (1, .slice (some ⟨g, 0, none⟩) 4104 4104)] (by simp [ev_const, hv]) #[.int .u64 16777216, .slice (some ⟨g, 0, none⟩) 4104 4104] (by kernel_rfl) ?_
            exact hK _ _ hS (Below.refl _ _) ⟨g, rfl, hR⟩
          refine Steps.cons (fun d hd a u hS hdep hoth K hK => ?_) ?_
          · obtain ⟨g, e0, h0⟩ := hdep 14 119 (by kernel_rfl) rfl
            refine wp_rowS slG 1 _ rfl [rgn 16777216 (some ⟨g, 0, none⟩) 4104 4104] (by simp [List.zipIdx, e0]) (by simp [Value.cells]) rfl (by omega) (by omega) (by omega) #[.int .u64 16777216, .slice (some ⟨g, 0, none⟩) 4104 4104] rfl ?_
            exact hK _ _ (st_al hS _).1 (st_al hS _).2 ⟨_, rfl, rdR_row u [(16777216, some ⟨g, 0, none⟩, 4104, zr 4104)] (by simp [RglOk]; exact h0) rfl⟩
          refine Steps.cons (fun d hd a u hS hdep hoth K hK => ?_) ?_
          · obtain ⟨g0, e0, h0⟩ := hdep 0 105 (by kernel_rfl) rfl
            obtain ⟨g1, e1, h1⟩ := hdep 2 107 (by kernel_rfl) rfl
            obtain ⟨g2, e2, h2⟩ := hdep 9 114 (by kernel_rfl) rfl
            obtain ⟨g3, e3, h3⟩ := hdep 12 117 (by kernel_rfl) rfl
            obtain ⟨g4, e4, h4⟩ := hdep 15 120 (by kernel_rfl) rfl
            refine wp_row1 slGG 6 _ rfl [.slice none 0 0, .slice (some ⟨g0, 0, none⟩) 17 17, .slice (some ⟨g1, 0, none⟩) 1 1, .slice (some ⟨g2, 0, none⟩) 2 2, .slice (some ⟨g3, 0, none⟩) 1 1, .slice (some ⟨g4, 0, none⟩) 1 1] (by simp [List.zipIdx, ev_const, e0, e1, e2, e3, e4]) (by simp [Value.cells]) rfl (by omega) (by omega) ?_
            refine hK _ _ (st_al hS _).1 (st_al hS _).2 ⟨_, rfl, fun j hj => ?_⟩
            have hq := Blk.new u 76 #[.slice none 0 0, .slice (some ⟨g0, 0, none⟩) 17 17, .slice (some ⟨g1, 0, none⟩) 1 1, .slice (some ⟨g2, 0, none⟩) 2 2, .slice (some ⟨g3, 0, none⟩) 1 1, .slice (some ⟨g4, 0, none⟩) 1 1]
            have hl := hq.lt
            rcases j with _ | _ | _ | _ | _ | _ | j
            · exact ⟨none, 0, [], (hq.cell 0).trans rfl, hl, by omega, ⟨rfl, [], rfl, by simp, Reads.none_, by simp⟩, by decide⟩
            · exact ⟨_, 17, _, (hq.cell 1).trans rfl, hl, by omega, h0.mv (st_al hS _).2, st_17⟩
            · exact ⟨_, 1, _, (hq.cell 2).trans rfl, hl, by omega, h1.mv (st_al hS _).2, st_33⟩
            · exact ⟨_, 2, _, (hq.cell 3).trans rfl, hl, by omega, h2.mv (st_al hS _).2, st_two⟩
            · exact ⟨_, 1, _, (hq.cell 4).trans rfl, hl, by omega, h3.mv (st_al hS _).2, st_12⟩
            · exact ⟨_, 1, _, (hq.cell 5).trans rfl, hl, by omega, h4.mv (st_al hS _).2, st_4104⟩
            · omega
          refine Steps.cons (fun d hd a u hS hdep hoth K hK => ?_) ?_
          · refine wp_same (.tmp 121) (.inl rfl) ?_
            exact hK _ _ hS (Below.refl _ _) (hdep 16 121 (by kernel_rfl) rfl)
          exact trivial
        case en =>
          obtain ⟨gS, hv, HTS⟩ := hV 17 11 rfl
          clear hV
          simp only [putL, Act.put, List.setIfInBounds_toArray, List.set_cons_zero, List.set_cons_succ, Nat.zero_add, Nat.reduceAdd]
          rw [hv]
          replace R2 := R2.mv hW
          replace hQ := Blk.mv hQ hW
          replace hH := Blk.mv hH hW
          replace hB := hB.trans (hW.mono hB.size)
          clear hW hv
          clear hQ
          have HTS := Lib.hid HTS
          go_wp2_with fail
          have hjS : gS = gS := rfl
          clear hjS
          have HB0 := Lib.hid hB
          clear hB
          go_loopw [12] (fun i wr => ∃ j : Nat, j ≤ 6 ∧ i = .int .i64 (j : Int) ∧ Below W'.heap.size W' wr) (fun i _ => 6 - (intOf i).toNat)
          case atStart => exact ⟨0, by omega, rfl, Below.refl _ _⟩
          case round =>
            obtain ⟨j, hj, rfl, hC⟩ := hrel
            by_cases hlt : j < 6
            · have hB := hC
              obtain ⟨A, n, LS, hcell, plt, hn, R, hbad⟩ := (HTS.out.mv hC) j hlt
              have hHx := Blk.mv hH hC
              have hz : (hpB 65536 ([] : List UInt8).length && stB LS) = false := by rw [hbad]; decide
              go_wp2_with fail
              refine (bad_ws _ R hn hbad).mono ?_
              rintro e y6 ⟨⟨A1, c1, rfl⟩, b_⟩
              replace hcell := (b_.cell (p := ⟨gS, j, none⟩) plt).trans hcell
              replace plt := Nat.lt_of_lt_of_le plt b_.size
              replace R := R.mv b_
              replace hHx := Blk.mv hHx b_
              replace hB := hB.trans (b_.mono hB.size)
              clear b_
              go_wp2_with fail
              refine nop_wp (ext_start (by kernel_rfl) calm_nop (fun hQ => ?_))
              replace R := R.mv ((Below.refl y6.heap.size y6).drew)
              replace hHx : Blk y6.drew GH 75 #[.int .u64 65536, .slice none 0 0] := hHx
              replace hcell : y6.drew.cell? ⟨gS, j, none⟩ = some (.slice A n n) := hcell
              replace plt : gS < y6.drew.heap.size := plt
              replace hB := hB.drew
              generalize y6.drew = y7 at *
              have X0 : ∀ W, Ext y7 W → W.cell? ⟨GH, 0, none⟩ = some (.int .u64 65536) := fun W h => ((hHx.below h hHx.lt).cell 0).trans rfl
              have X1 : ∀ W, Ext y7 W → W.cell? ⟨GH, 1, none⟩ = some (.slice none 0 0) := fun W h => ((hHx.below h hHx.lt).cell 1).trans rfl
              have XT : ∀ W, Ext y7 W → W.cell? ⟨gS, j, none⟩ = some (.slice A n n) := fun W h => (Below.cell h (p := ⟨gS, j, none⟩) plt).trans hcell
              refine ext_take (i := 0) (oi := ?oip0) (v := ?vp0) ?hip0 (by kernel_rfl) (by kernel_rfl) (by kernel_rfl) hQ ?hwp0 ?hyp0 ?restp0
              case hip0 => simp only [List.getElem?_toArray, List.getElem?_cons_zero]; rfl
              case hwp0 => rfl
              case hyp0 => intro W hW; go_simp; with_reducible rfl
              simp only [Act.put, List.setIfInBounds_toArray, List.set_cons_zero, List.set_cons_succ]
              refine ext_take (i := 1) (oi := ?oip1) (v := ?vp1) ?hip1 (by kernel_rfl) (by kernel_rfl) (by kernel_rfl) hQ ?hwp1 ?hyp1 ?restp1
              case hip1 => simp only [List.getElem?_toArray, List.getElem?_cons_zero, List.getElem?_cons_succ]; rfl
              case hwp1 => rfl
              case hyp1 => intro W hW; go_simp; with_reducible rfl
              simp only [Act.put, List.setIfInBounds_toArray, List.set_cons_zero, List.set_cons_succ]
              refine ext_take (i := 2) (oi := ?oip2) (v := ?vp2) ?hip2 (by kernel_rfl) (by kernel_rfl) (by kernel_rfl) hQ ?hwp2 ?hyp2 ?restp2
              case hip2 => simp only [List.getElem?_toArray, List.getElem?_cons_zero, List.getElem?_cons_succ]; rfl
              case hwp2 => rfl
              case hyp2 => intro W hW; go_simp; with_reducible rfl
              simp only [Act.put, List.setIfInBounds_toArray, List.set_cons_zero, List.set_cons_succ]
              refine ext_take (i := 3) (oi := ?oip3) (v := ?vp3) ?hip3 (by kernel_rfl) (by kernel_rfl) (by kernel_rfl) hQ ?hwp3 ?hyp3 ?restp3
              case hip3 => simp only [List.getElem?_toArray, List.getElem?_cons_zero, List.getElem?_cons_succ]; rfl
              case hwp3 => rfl
              case hyp3 => intro W hW; go_simp; with_reducible rfl
              simp only [Act.put, List.setIfInBounds_toArray, List.set_cons_zero, List.set_cons_succ]
              refine ext_take (i := 4) (oi := ?oip4) (v := ?vp4) ?hip4 (by kernel_rfl) (by kernel_rfl) (by kernel_rfl) hQ ?hwp4 ?hyp4 ?restp4
              case hip4 => simp only [List.getElem?_toArray, List.getElem?_cons_zero, List.getElem?_cons_succ]; rfl
              case hwp4 => rfl
              case hyp4 => intro W hW; go_simp; with_reducible rfl
              simp only [Act.put, List.setIfInBounds_toArray, List.set_cons_zero, List.set_cons_succ]
              refine ext_step (i := 5) (oi := ?oip5) (by kernel_rfl) ?hip5 ?hwp5 (fun K hK => ?_)
              case hip5 => simp only [List.getElem?_toArray, List.getElem?_cons_zero, List.getElem?_cons_succ]; rfl
              case hwp5 => rfl
              go_simp
              refine (word_is _ Reads.none_ (by omega) (by omega) R hn 0 (by omega) 0 8 (no_word hz 0).1 (no_word hz 0).2).mono ?_; rintro e y8 ⟨rfl, b_⟩; replace R := R.mv b_; replace hHx := hHx.below b_ hHx.lt; replace hcell := (b_.cell (p := ⟨gS, j, none⟩) plt).trans hcell; replace plt := Nat.lt_of_lt_of_le plt b_.size; replace hB := hB.trans (b_.mono hB.size); refine hK _ _ b_ ?_
              try simp only [Act.put, List.setIfInBounds_toArray, List.set_cons_zero, List.set_cons_succ]
              refine ext_take (i := 6) (oi := ?oip6) (v := ?vp6) ?hip6 (by kernel_rfl) (by kernel_rfl) (by kernel_rfl) hQ ?hwp6 ?hyp6 ?restp6
              case hip6 => simp only [List.getElem?_toArray, List.getElem?_cons_zero, List.getElem?_cons_succ]; rfl
              case hwp6 => rfl
              case hyp6 => intro W hW; go_simp; with_reducible rfl
              simp only [Act.put, List.setIfInBounds_toArray, List.set_cons_zero, List.set_cons_succ]
              refine ext_take (i := 7) (oi := ?oip7) (v := ?vp7) ?hip7 (by kernel_rfl) (by kernel_rfl) (by kernel_rfl) hQ ?hwp7 ?hyp7 ?restp7
              case hip7 => simp only [List.getElem?_toArray, List.getElem?_cons_zero, List.getElem?_cons_succ]; rfl
              case hwp7 => rfl
              case hyp7 => intro W hW; go_simp; with_reducible rfl
              simp only [Act.put, List.setIfInBounds_toArray, List.set_cons_zero, List.set_cons_succ]
              refine ext_take (i := 8) (oi := ?oip8) (v := ?vp8) ?hip8 (by kernel_rfl) (by kernel_rfl) (by kernel_rfl) hQ ?hwp8 ?hyp8 ?restp8
              case hip8 => simp only [List.getElem?_toArray, List.getElem?_cons_zero, List.getElem?_cons_succ]; rfl
              case hwp8 => rfl
              case hyp8 => intro W hW; go_simp; with_reducible rfl
              simp only [Act.put, List.setIfInBounds_toArray, List.set_cons_zero, List.set_cons_succ]
              refine ext_take (i := 9) (oi := ?oip9) (v := ?vp9) ?hip9 (by kernel_rfl) (by kernel_rfl) (by kernel_rfl) hQ ?hwp9 ?hyp9 ?restp9
              case hip9 => simp only [List.getElem?_toArray, List.getElem?_cons_zero, List.getElem?_cons_succ]; rfl
              case hwp9 => rfl
              case hyp9 => intro W hW; go_simp; with_reducible rfl
              simp only [Act.put, List.setIfInBounds_toArray, List.set_cons_zero, List.set_cons_succ]
              refine ext_take (i := 10) (oi := ?oip10) (v := ?vp10) ?hip10 (by kernel_rfl) (by kernel_rfl) (by kernel_rfl) hQ ?hwp10 ?hyp10 ?restp10
              case hip10 => simp only [List.getElem?_toArray, List.getElem?_cons_zero, List.getElem?_cons_succ]; rfl
              case hwp10 => rfl
              case hyp10 => intro W hW; go_simp; with_reducible rfl
              simp only [Act.put, List.setIfInBounds_toArray, List.set_cons_zero, List.set_cons_succ]
              refine wpAnyH_done (by kernel_rfl) ?_ _
              simp only [NoP]
              clear X0 X1 XT b_
              go_wp2_with fail
              refine nop_wp (ext_start (by kernel_rfl) calm_nop (fun hQ => ?_))
              replace R := R.mv ((Below.refl y8.heap.size y8).drew)
              replace hHx : Blk y8.drew GH 75 #[.int .u64 65536, .slice none 0 0] := hHx
              replace hcell : y8.drew.cell? ⟨gS, j, none⟩ = some (.slice A n n) := hcell
              replace plt : gS < y8.drew.heap.size := plt
              replace hB := hB.drew
              generalize y8.drew = y9 at *
              have X0 : ∀ W, Ext y9 W → W.cell? ⟨GH, 0, none⟩ = some (.int .u64 65536) := fun W h => ((hHx.below h hHx.lt).cell 0).trans rfl
              have X1 : ∀ W, Ext y9 W → W.cell? ⟨GH, 1, none⟩ = some (.slice none 0 0) := fun W h => ((hHx.below h hHx.lt).cell 1).trans rfl
              have XT : ∀ W, Ext y9 W → W.cell? ⟨gS, j, none⟩ = some (.slice A n n) := fun W h => (Below.cell h (p := ⟨gS, j, none⟩) plt).trans hcell
              refine ext_take (i := 0) (oi := ?oiq0) (v := ?vq0) ?hiq0 (by kernel_rfl) (by kernel_rfl) (by kernel_rfl) hQ ?hwq0 ?hyq0 ?restq0
              case hiq0 => simp only [List.getElem?_toArray, List.getElem?_cons_zero]; rfl
              case hwq0 => rfl
              case hyq0 => intro W hW; go_simp; with_reducible rfl
              simp only [Act.put, List.setIfInBounds_toArray, List.set_cons_zero, List.set_cons_succ]
              refine ext_take (i := 1) (oi := ?oiq1) (v := ?vq1) ?hiq1 (by kernel_rfl) (by kernel_rfl) (by kernel_rfl) hQ ?hwq1 ?hyq1 ?restq1
              case hiq1 => simp only [List.getElem?_toArray, List.getElem?_cons_zero, List.getElem?_cons_succ]; rfl
              case hwq1 => rfl
              case hyq1 => intro W hW; go_simp; with_reducible rfl
              simp only [Act.put, List.setIfInBounds_toArray, List.set_cons_zero, List.set_cons_succ]
              refine ext_take (i := 2) (oi := ?oiq2) (v := ?vq2) ?hiq2 (by kernel_rfl) (by kernel_rfl) (by kernel_rfl) hQ ?hwq2 ?hyq2 ?restq2
              case hiq2 => simp only [List.getElem?_toArray, List.getElem?_cons_zero, List.getElem?_cons_succ]; rfl
              case hwq2 => rfl
              case hyq2 => intro W hW; go_simp; with_reducible rfl
              simp only [Act.put, List.setIfInBounds_toArray, List.set_cons_zero, List.set_cons_succ]
              refine ext_take (i := 3) (oi := ?oiq3) (v := ?vq3) ?hiq3 (by kernel_rfl) (by kernel_rfl) (by kernel_rfl) hQ ?hwq3 ?hyq3 ?restq3
              case hiq3 => simp only [List.getElem?_toArray, List.getElem?_cons_zero, List.getElem?_cons_succ]; rfl
              case hwq3 => rfl
              case hyq3 => intro W hW; go_simp; with_reducible rfl
              simp only [Act.put, List.setIfInBounds_toArray, List.set_cons_zero, List.set_cons_succ]
              refine ext_take (i := 4) (oi := ?oiq4) (v := ?vq4) ?hiq4 (by kernel_rfl) (by kernel_rfl) (by kernel_rfl) hQ ?hwq4 ?hyq4 ?restq4
              case hiq4 => simp only [List.getElem?_toArray, List.getElem?_cons_zero, List.getElem?_cons_succ]; rfl
              case hwq4 => rfl
              case hyq4 => intro W hW; go_simp; with_reducible rfl
              simp only [Act.put, List.setIfInBounds_toArray, List.set_cons_zero, List.set_cons_succ]
              refine ext_step (i := 5) (oi := ?oiq5) (by kernel_rfl) ?hiq5 ?hwq5 (fun K hK => ?_)
              case hiq5 => simp only [List.getElem?_toArray, List.getElem?_cons_zero, List.getElem?_cons_succ]; rfl
              case hwq5 => rfl
              go_simp
              refine (bytes_is _ Reads.none_ (by omega) (by omega) R hn 0 (by omega) (-1) [] 8 (no_bytes hz 0 (-1)).1 (no_bytes hz 0 (-1)).2).mono ?_; rintro e y10 ⟨A3, c3, rfl, _, b_⟩; replace R := R.mv b_; replace hHx := hHx.below b_ hHx.lt; replace hcell := (b_.cell (p := ⟨gS, j, none⟩) plt).trans hcell; replace plt := Nat.lt_of_lt_of_le plt b_.size; replace hB := hB.trans (b_.mono hB.size); refine hK _ _ b_ ?_
              try simp only [Act.put, List.setIfInBounds_toArray, List.set_cons_zero, List.set_cons_succ]
              refine ext_take (i := 6) (oi := ?oiq6) (v := ?vq6) ?hiq6 (by kernel_rfl) (by kernel_rfl) (by kernel_rfl) hQ ?hwq6 ?hyq6 ?restq6
              case hiq6 => simp only [List.getElem?_toArray, List.getElem?_cons_zero, List.getElem?_cons_succ]; rfl
              case hwq6 => rfl
              case hyq6 => intro W hW; go_simp; with_reducible rfl
              simp only [Act.put, List.setIfInBounds_toArray, List.set_cons_zero, List.set_cons_succ]
              refine ext_take (i := 7) (oi := ?oiq7) (v := ?vq7) ?hiq7 (by kernel_rfl) (by kernel_rfl) (by kernel_rfl) hQ ?hwq7 ?hyq7 ?restq7
              case hiq7 => simp only [List.getElem?_toArray, List.getElem?_cons_zero, List.getElem?_cons_succ]; rfl
              case hwq7 => rfl
              case hyq7 => intro W hW; go_simp; with_reducible rfl
              simp only [Act.put, List.setIfInBounds_toArray, List.set_cons_zero, List.set_cons_succ]
              refine ext_take (i := 8) (oi := ?oiq8) (v := ?vq8) ?hiq8 (by kernel_rfl) (by kernel_rfl) (by kernel_rfl) hQ ?hwq8 ?hyq8 ?restq8
              case hiq8 => simp only [List.getElem?_toArray, List.getElem?_cons_zero, List.getElem?_cons_succ]; rfl
              case hwq8 => rfl
              case hyq8 => intro W hW; go_simp; with_reducible rfl
              simp only [Act.put, List.setIfInBounds_toArray, List.set_cons_zero, List.set_cons_succ]
              refine ext_take (i := 9) (oi := ?oiq9) (v := ?vq9) ?hiq9 (by kernel_rfl) (by kernel_rfl) (by kernel_rfl) hQ ?hwq9 ?hyq9 ?restq9
              case hiq9 => simp only [List.getElem?_toArray, List.getElem?_cons_zero, List.getElem?_cons_succ]; rfl
              case hwq9 => rfl
              case hyq9 => intro W hW; go_simp; with_reducible rfl
              simp only [Act.put, List.setIfInBounds_toArray, List.set_cons_zero, List.set_cons_succ]
              refine ext_take (i := 10) (oi := ?oiq10) (v := ?vq10) ?hiq10 (by kernel_rfl) (by kernel_rfl) (by kernel_rfl) hQ ?hwq10 ?hyq10 ?restq10
              case hiq10 => simp only [List.getElem?_toArray, List.getElem?_cons_zero, List.getElem?_cons_succ]; rfl
              case hwq10 => rfl
              case hyq10 => intro W hW; go_simp; with_reducible rfl
              simp only [Act.put, List.setIfInBounds_toArray, List.set_cons_zero, List.set_cons_succ]
              refine wpAnyH_done (by kernel_rfl) ?_ _
              simp only [NoP]
              clear X0 X1 XT b_
              go_wp2_with fail
              go_roundw
              case rel => exact ⟨j + 1, by omega, by go_num, hB⟩
              case measure => simp [intOf]; omega
            · replace hj : j = 6 := by omega
              subst hj
              (try rw [show ((6 : Nat) : Int) = 6 from rfl])
              replace R2 := R2.mv hC
              replace hH := Blk.mv hH hC
              have hB := HB0.out.trans (hC.mono HB0.out.size)
              clear HB0 hC
              clear HTS hH
              go_wp2_with fail
              obtain ⟨hT, hbT⟩ := rdX_tab (w := wr) (w1 := (((((wr.alloc (.cells #[.int .u8 4, .int .u8 1, .int .u8 2, .int .u8 3, .int .u8 4] 5)).alloc (.cells #[.int .u8 8, .int .u8 1, .int .u8 2, .int .u8 3, .int .u8 4, .int .u8 5, .int .u8 6, .int .u8 7] 5)).alloc (.cells #[.int .u8 0, .int .u8 0] 5)).alloc (.cells #[.int .u8 128, .int .u8 0] 5)).alloc (.cells #[.int .u8 128] 5))) (t := 5) (t2 := 25) (F := fun l : List UInt8 => l.map b8) (sz := 1) (fun l => by simp) formM (by decide) rfl (cs := #[.slice none 0 0, .slice (some ⟨wr.heap.size, 0, none⟩) 5 5, .slice (some ⟨wr.heap.size + 1, 0, none⟩) 8 8, .slice (some ⟨wr.heap.size + 1 + 1, 0, none⟩) 2 2, .slice (some ⟨wr.heap.size + 1 + 1 + 1, 0, none⟩) 2 2, .slice (some ⟨wr.heap.size + 1 + 1 + 1 + 1, 0, none⟩) 1 1]) rfl
              rw [show (((((wr.alloc (.cells #[.int .u8 4, .int .u8 1, .int .u8 2, .int .u8 3, .int .u8 4] 5)).alloc (.cells #[.int .u8 8, .int .u8 1, .int .u8 2, .int .u8 3, .int .u8 4, .int .u8 5, .int .u8 6, .int .u8 7] 5)).alloc (.cells #[.int .u8 0, .int .u8 0] 5)).alloc (.cells #[.int .u8 128, .int .u8 0] 5)).alloc (.cells #[.int .u8 128] 5)).heap.size = wr.heap.size + 1 + 1 + 1 + 1 + 1 from by simp] at hT
              go_wp2_with fail
              generalize (((((wr.alloc (.cells #[.int .u8 4, .int .u8 1, .int .u8 2, .int .u8 3, .int .u8 4] 5)).alloc (.cells #[.int .u8 8, .int .u8 1, .int .u8 2, .int .u8 3, .int .u8 4, .int .u8 5, .int .u8 6, .int .u8 7] 5)).alloc (.cells #[.int .u8 0, .int .u8 0] 5)).alloc (.cells #[.int .u8 128, .int .u8 0] 5)).alloc (.cells #[.int .u8 128] 5)).alloc (.cells #[.slice none 0 0, .slice (some ⟨wr.heap.size, 0, none⟩) 5 5, .slice (some ⟨wr.heap.size + 1, 0, none⟩) 8 8, .slice (some ⟨wr.heap.size + 1 + 1, 0, none⟩) 2 2, .slice (some ⟨wr.heap.size + 1 + 1 + 1, 0, none⟩) 2 2, .slice (some ⟨wr.heap.size + 1 + 1 + 1 + 1, 0, none⟩) 1 1] 25) = y11 at *
              generalize hPT_ : wr.heap.size + 1 + 1 + 1 + 1 + 1 = PT20 at *
              clear hPT_
              replace R2 := R2.mv hbT
              replace hB := hB.trans (hbT.mono hB.size)
              clear hbT
              have HT := Lib.hid hT
              clear hT
              have HB0 := Lib.hid hB
              clear hB
              go_loopw [20] (fun i wr => ∃ j : Nat, j ≤ 6 ∧ i = .int .i64 (j : Int) ∧ Below y11.heap.size y11 wr) (fun i _ => 6 - (intOf i).toNat)
              case atStart => exact ⟨0, by omega, rfl, Below.refl _ _⟩
              case round =>
                obtain ⟨j, hj, rfl, hC⟩ := hrel
                by_cases hlt : j < 6
                · have hB := hC
                  obtain ⟨A, c, l, hL, hcell, hcc, R⟩ := (HT.out.mv hC).at_ hlt
                  obtain ⟨hb1, hb2, hl⟩ := formM_get (List.mem_of_getElem? hL)
                  clear hL
                  have plt : PT20 < wr.heap.size := World.block_lt_of_cell? wr ⟨PT20, j, none⟩ hcell
                  go_wp2_with fail
                  refine (bad_rH _ R (by omega) hb1).mono ?_
                  rintro e y12 ⟨⟨A1, c1, rfl⟩, b_⟩
                  replace hcell := (b_.cell (p := ⟨PT20, j, none⟩) plt).trans hcell
                  replace plt := Nat.lt_of_lt_of_le plt b_.size
                  replace R := R.mv b_
                  replace hB := hB.trans (b_.mono hB.size)
                  clear b_
                  have bq := ((Below.refl y12.heap.size y12).alloc (Nat.le_refl _) (.cells #[.int .u64 0, .slice A1 0 c1] 75)).alloc (by simp) (.cells #[.int .u8 1] 5)
                  replace hcell := (bq.cell (p := ⟨PT20, j, none⟩) plt).trans hcell
                  have ow : ((y12.alloc (.cells #[.int .u64 0, .slice A1 0 c1] 75)).alloc (.cells #[.int .u8 1] 5)).ownsRow (y12.heap.size + 1) 5 1 (.slice (some ⟨y12.heap.size + 1, 0, none⟩) 1 1) 1 (([1] : List UInt8).map b8) := by
                    have h := own_of_blk (base := (y12.alloc (.cells #[.int .u64 0, .slice A1 0 c1] 75)).heap.size) [1] (Blk.new (y12.alloc (.cells #[.int .u64 0, .slice A1 0 c1] 75)) 5 #[.int .u8 1]) (Nat.le_refl _) (by decide)
                    rw [alloc_size] at h
                    exact h
                  replace R := R.mv bq
                  have hsb := hB.size
                  replace hB := hB.trans (bq.mono hB.size)
                  clear bq
                  go_wp2_with (at_builtin; refine wpList_app8 rfl (.tmp 185) (.tmp 189) _ (by rfl) sl8 (y12.heap.size + 1) (by rfl) ow (by rfl) R (1 + l.length) rfl (by omega) (by simp) ?_; intro A6 c6 w6 o6 b6)
                  replace hB := hB.trans (b6.mono (by omega))
                  have R6 : Rb w6 A6 (1 + l.length) (1 :: l) := own_rd o6
                  clear R o6 ow b6
                  refine (bad_rS _ R6 (by simp only [List.length_cons]; omega) hb2).mono ?_
                  rintro e y13 ⟨⟨A7, c7, rfl⟩, b_⟩
                  replace hB := hB.trans (b_.mono hB.size)
                  clear b_
                  go_wp2_with fail
                  go_roundw
                  case rel => exact ⟨j + 1, by omega, by go_num, hB⟩
                  case measure => simp [intOf]; omega
                · replace hj : j = 6 := by omega
                  subst hj
                  (try rw [show ((6 : Nat) : Int) = 6 from rfl])
                  replace R2 := R2.mv hC
                  have hB := HB0.out.trans (hC.mono HB0.out.size)
                  clear HB0 hC
                  clear HT
                  go_wp2_with fail
                  have RL : Rb (wr.alloc (.cells #[.int .u8 0] 5)) (some ⟨wr.heap.size, 0, none⟩) 1 [0] := reads_bytes wr [0] 5
                  have b_ := (Below.refl wr.heap.size wr).alloc (Nat.le_refl _) (.cells #[.int .u8 0] 5)
                  replace R2 := R2.mv b_
                  replace hB := hB.trans (b_.mono hB.size)
                  clear b_
                  refine (bad_rS _ RL (by decide) (by decide +kernel)).mono ?_
                  rintro e y14 ⟨⟨A2, c2, rfl⟩, b_⟩
                  replace R2 := R2.mv b_
                  replace hB := hB.trans (b_.mono hB.size)
                  clear b_
                  clear RL
                  go_wp2_with fail
                  have RL : Rb (y14.alloc (.cells #[.int .u8 17, .int .u8 0, .int .u8 0, .int .u8 0, .int .u8 0, .int .u8 0, .int .u8 0, .int .u8 0, .int .u8 0, .int .u8 0, .int .u8 0, .int .u8 0, .int .u8 0, .int .u8 0, .int .u8 0, .int .u8 0, .int .u8 0, .int .u8 0] 5)) (some ⟨y14.heap.size, 0, none⟩) 18 [17, 0, 0, 0, 0, 0, 0, 0, 0, 0, 0, 0, 0, 0, 0, 0, 0, 0] := reads_bytes y14 [17, 0, 0, 0, 0, 0, 0, 0, 0, 0, 0, 0, 0, 0, 0, 0, 0, 0] 5
                  have b_ := (Below.refl y14.heap.size y14).alloc (Nat.le_refl _) (.cells #[.int .u8 17, .int .u8 0, .int .u8 0, .int .u8 0, .int .u8 0, .int .u8 0, .int .u8 0, .int .u8 0, .int .u8 0, .int .u8 0, .int .u8 0, .int .u8 0, .int .u8 0, .int .u8 0, .int .u8 0, .int .u8 0, .int .u8 0, .int .u8 0] 5)
                  replace R2 := R2.mv b_
                  replace hB := hB.trans (b_.mono hB.size)
                  clear b_
                  refine (bad_rS _ RL (by decide) (by decide +kernel)).mono ?_
                  rintro e y15 ⟨⟨A2, c2, rfl⟩, b_⟩
                  replace R2 := R2.mv b_
                  replace hB := hB.trans (b_.mono hB.size)
                  clear b_
                  clear RL
                  go_wp2_with fail
                  have RL : Rb (y15.alloc (.cells #[.int .u8 16, .int .u8 0, .int .u8 0, .int .u8 0, .int .u8 0, .int .u8 0, .int .u8 0, .int .u8 0, .int .u8 0, .int .u8 0, .int .u8 0, .int .u8 0, .int .u8 0, .int .u8 0, .int .u8 0, .int .u8 0, .int .u8 0] 5)) (some ⟨y15.heap.size, 0, none⟩) 17 [16, 0, 0, 0, 0, 0, 0, 0, 0, 0, 0, 0, 0, 0, 0, 0, 0] := reads_bytes y15 [16, 0, 0, 0, 0, 0, 0, 0, 0, 0, 0, 0, 0, 0, 0, 0, 0] 5
                  have b_ := (Below.refl y15.heap.size y15).alloc (Nat.le_refl _) (.cells #[.int .u8 16, .int .u8 0, .int .u8 0, .int .u8 0, .int .u8 0, .int .u8 0, .int .u8 0, .int .u8 0, .int .u8 0, .int .u8 0, .int .u8 0, .int .u8 0, .int .u8 0, .int .u8 0, .int .u8 0, .int .u8 0, .int .u8 0] 5)
                  replace R2 := R2.mv b_
                  replace hB := hB.trans (b_.mono hB.size)
                  clear b_
                  have HN := readStacks_any _ 17 17 [16, 0, 0, 0, 0, 0, 0, 0, 0, 0, 0, 0, 0, 0, 0, 0, 0] _ RL (by decide)
                  unfold RsP at HN
                  rw [rs_16.1, rs_16.2, show stk16.length = 16 from rfl] at HN
                  refine HN.mono ?_
                  rintro e y16 ⟨AX, cX, rfl, oX, b_⟩
                  obtain ⟨gX, rfl, kX⟩ := owv_at (k := 15) oX (by omega) (rfl : stk16[15]? = some (268435456, []))
                  replace kX : y16.cell? ⟨gX, 30, none⟩ = some (.int .u64 268435456) := kX
                  have pX : gX < y16.heap.size := World.block_lt_of_cell? _ ⟨gX, 30, none⟩ kX
                  clear oX HN RL
                  replace R2 := R2.mv b_
                  replace hB := hB.trans (b_.mono hB.size)
                  clear b_
                  go_upto_region 31 with (fail)
                  go_upto_region 32 with (refine wpList_mk1 _ rfl (.const (.int .i64 16384)) (.const (.int .i64 16384)) rfl sl8 rfl 16384 (by rfl) (by rfl) rfl rfl (by omega) ?_; intro w2 o2 b_)
                  have RZ := rb_zeros o2
                  clear o2
                  replace kX := (b_.cell (p := ⟨gX, 30, none⟩) pX).trans kX
                  replace pX := Nat.lt_of_lt_of_le pX b_.size
                  replace R2 := R2.mv b_
                  replace hB := hB.trans (b_.mono hB.size)
                  clear b_
                  have hF := Blk.new w2 75 #[.int .u64 65536, .slice (some ⟨y16.heap.size, 0, none⟩) 16384 16384]
                  have b_ := (Below.refl w2.heap.size w2).alloc (Nat.le_refl _) (.cells #[.int .u64 65536, .slice (some ⟨y16.heap.size, 0, none⟩) 16384 16384] 75)
                  replace kX := (b_.cell (p := ⟨gX, 30, none⟩) pX).trans kX
                  replace pX := Nat.lt_of_lt_of_le pX b_.size
                  clear b_
                  have b_ := (Below.refl w2.heap.size w2).alloc (Nat.le_refl _) (.cells #[.int .u64 65536, .slice (some ⟨y16.heap.size, 0, none⟩) 16384 16384] 75)
                  replace R2 := R2.mv b_
                  replace RZ := RZ.mv b_
                  replace hB := hB.trans (b_.mono hB.size)
                  clear b_
                  generalize (w2.alloc (.cells #[.int .u64 65536, .slice (some ⟨y16.heap.size, 0, none⟩) 16384 16384] 75)) = y17 at *
                  obtain ⟨c0, _, c1, _⟩ := Blk.cf2 hF
                  go_wp2_with fail
                  refine (bytes_len _ RZ (by omega) (by omega) R2 (by omega) 77824 (by omega) 4096 4096 0 z1 (by decide)).mono ?_
                  rintro e y18 ⟨A78244096, c78244096, rfl, b_⟩
                  replace kX := (b_.cell (p := ⟨gX, 30, none⟩) pX).trans kX
                  replace pX := Nat.lt_of_lt_of_le pX b_.size
                  replace R2 := R2.mv b_
                  replace RZ := RZ.mv b_
                  replace hF := Blk.mv hF b_
                  replace hB := hB.trans (b_.mono hB.size)
                  clear b_
                  clear c0 c1
                  obtain ⟨c0, _, c1, _⟩ := Blk.cf2 hF
                  go_wp2_with fail
                  refine (bytes_len _ RZ (by omega) (by omega) R2 (by omega) 65536 (by omega) 4097 0 2 z2 (by decide)).mono ?_
                  rintro e y19 ⟨A55364097, c55364097, rfl, b_⟩
                  replace kX := (b_.cell (p := ⟨gX, 30, none⟩) pX).trans kX
                  replace pX := Nat.lt_of_lt_of_le pX b_.size
                  replace R2 := R2.mv b_
                  replace RZ := RZ.mv b_
                  replace hF := Blk.mv hF b_
                  replace hB := hB.trans (b_.mono hB.size)
                  clear b_
                  clear c0 c1
                  obtain ⟨c0, _, c1, _⟩ := Blk.cf2 hF
                  go_wp2_with fail
                  refine (bytes_len _ RZ (by omega) (by omega) R2 (by omega) 0 (by omega) 0 0 42 z3 (by decide)).mono ?_
                  rintro e y20 ⟨A00, c00, rfl, b_⟩
                  replace kX := (b_.cell (p := ⟨gX, 30, none⟩) pX).trans kX
                  replace pX := Nat.lt_of_lt_of_le pX b_.size
                  replace R2 := R2.mv b_
                  replace RZ := RZ.mv b_
                  replace hF := Blk.mv hF b_
                  replace hB := hB.trans (b_.mono hB.size)
                  clear b_
                  clear c0 c1
                  obtain ⟨c0, _, c1, _⟩ := Blk.cf2 hF
                  go_wp2_with fail
                  refine (word_no _ RZ (by omega) (by omega) R2 (by omega) 81920 (by omega) 16 zw1 (by omega)).mono ?_
                  rintro e y21 ⟨rfl, b_⟩
                  replace kX := (b_.cell (p := ⟨gX, 30, none⟩) pX).trans kX
                  replace pX := Nat.lt_of_lt_of_le pX b_.size
                  replace R2 := R2.mv b_
                  replace RZ := RZ.mv b_
                  replace hF := Blk.mv hF b_
                  replace hB := hB.trans (b_.mono hB.size)
                  clear b_
                  clear c0 c1
                  obtain ⟨c0, _, c1, _⟩ := Blk.cf2 hF
                  go_wp2_with fail
                  refine (word_no _ RZ (by omega) (by omega) R2 (by omega) 65540 (by omega) 16 zw2 (by omega)).mono ?_
                  rintro e y22 ⟨rfl, b_⟩
                  replace kX := (b_.cell (p := ⟨gX, 30, none⟩) pX).trans kX
                  replace pX := Nat.lt_of_lt_of_le pX b_.size
                  replace R2 := R2.mv b_
                  replace RZ := RZ.mv b_
                  replace hF := Blk.mv hF b_
                  replace hB := hB.trans (b_.mono hB.size)
                  clear b_
                  clear c0 c1
                  obtain ⟨c0, _, c1, _⟩ := Blk.cf2 hF
                  go_wp2_with fail
                  refine (bytes_len _ RZ (by omega) (by omega) R2 (by omega) 18446744073709551615 (by omega) 1 0 16 z4 (by decide)).mono ?_
                  rintro e y23 ⟨A16151, c16151, rfl, b_⟩
                  replace kX := (b_.cell (p := ⟨gX, 30, none⟩) pX).trans kX
                  replace pX := Nat.lt_of_lt_of_le pX b_.size
                  replace R2 := R2.mv b_
                  replace RZ := RZ.mv b_
                  replace hF := Blk.mv hF b_
                  replace hB := hB.trans (b_.mono hB.size)
                  clear b_
                  clear c0 c1
                  obtain ⟨c0, _, c1, _⟩ := Blk.cf2 hF
                  go_wp2_with fail
                  refine (word_no _ RZ (by omega) (by omega) R2 (by omega) 0 (by omega) 42 zw3 (by omega)).mono ?_
                  rintro e y24 ⟨rfl, b_⟩
                  replace kX := (b_.cell (p := ⟨gX, 30, none⟩) pX).trans kX
                  replace pX := Nat.lt_of_lt_of_le pX b_.size
                  replace R2 := R2.mv b_
                  replace RZ := RZ.mv b_
                  replace hF := Blk.mv hF b_
                  replace hB := hB.trans (b_.mono hB.size)
                  clear b_
                  clear c0 c1
                  obtain ⟨c0, _, c1, _⟩ := Blk.cf2 hF
                  go_wp2_with fail
                  refine (bytes_len _ RZ (by omega) (by omega) R2 (by omega) 33554440 (by omega) 0 0 0 z5 (by decide)).mono ?_
                  rintro e y25 ⟨A44400, c44400, rfl, b_⟩
                  replace kX := (b_.cell (p := ⟨gX, 30, none⟩) pX).trans kX
                  replace pX := Nat.lt_of_lt_of_le pX b_.size
                  replace R2 := R2.mv b_
                  replace RZ := RZ.mv b_
                  replace hF := Blk.mv hF b_
                  replace hB := hB.trans (b_.mono hB.size)
                  clear b_
                  clear c0 c1
                  obtain ⟨c0, _, c1, _⟩ := Blk.cf2 hF
                  go_wp2_with fail
                  refine (bytes_len _ RZ (by omega) (by omega) R2 (by omega) 33554441 (by omega) 0 0 16 z6 (by decide)).mono ?_
                  rintro e y26 ⟨A44410, c44410, rfl, b_⟩
                  replace kX := (b_.cell (p := ⟨gX, 30, none⟩) pX).trans kX
                  replace pX := Nat.lt_of_lt_of_le pX b_.size
                  replace R2 := R2.mv b_
                  replace RZ := RZ.mv b_
                  replace hF := Blk.mv hF b_
                  replace hB := hB.trans (b_.mono hB.size)
                  clear b_
                  clear c0 c1
                  obtain ⟨c0, _, c1, _⟩ := Blk.cf2 hF
                  go_wp2_with fail
                  refine (bytes_is _ RZ (by omega) (by omega) R2 (by omega) 33554433 (by omega) 2 [2, 3] 0 z8 z7).mono ?_
                  rintro e y27 ⟨A9, c9, rfl, R9, b_⟩
                  replace kX := (b_.cell (p := ⟨gX, 30, none⟩) pX).trans kX
                  replace pX := Nat.lt_of_lt_of_le pX b_.size
                  replace R2 := R2.mv b_
                  replace RZ := RZ.mv b_
                  replace hF := Blk.mv hF b_
                  replace hB := hB.trans (b_.mono hB.size)
                  clear b_
                  clear c0 c1 hF RZ R2
                  go_wp2_with fail
                  refine (alive26_any y27).mono ?_
                  rintro e y28 ⟨rfl, b_⟩
                  replace kX := (b_.cell (p := ⟨gX, 30, none⟩) pX).trans kX
                  replace pX := Nat.lt_of_lt_of_le pX b_.size
                  replace R9 := R9.mv b_
                  replace hB := hB.trans (b_.mono hB.size)
                  clear b_
                  have K9 : (convert 25 9 (.slice A9 2 c9)).run Try.prog y28 = .ok (.string ⟨#[2, 3]⟩) y28 := cvS c9 R9
                  clear R9
                  go_wp2_with fail
                  go_ret
                  exact ⟨rfl, hB⟩

end Go.Proofs.Ytldaijkcmnnjpaa
