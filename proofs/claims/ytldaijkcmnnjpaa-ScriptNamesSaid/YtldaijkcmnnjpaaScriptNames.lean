/- The walk of ScriptNames. No conditions. -/
import Derived.Test.YtldaijkcmnnjpaaScrNm
import Derived.BigQuiet
namespace Go.Proofs.Ytldaijkcmnnjpaa
open Go.RowKit Wire
set_option linter.unusedVariables false

set_option maxRecDepth 100000 in
set_option maxHeartbeats 8000000 in
theorem scriptNames_walk (w : World) :
    Calls Try.prog 4 #[] w fun e w' => e = .returned (.bool true) ∧ Below w.heap.size w w' := by
  go_enter Try.func4, Try.ntmps4
  have hB : Below w.heap.size w w := Below.refl _ _
  have hT : Blk (w.alloc (.cells #[.int .i64 0, .int .i64 0, .int .i64 0, .int .i64 1, .int .i64 5001, .int .i64 0, .int .i64 0, .int .i64 1, .int .i64 1, .int .i64 (-1), .int .i64 0, .int .i64 1, .int .i64 1, .int .i64 4097, .int .i64 0, .int .i64 1, .int .i64 1, .int .i64 0, .int .i64 (-1), .int .i64 1, .int .i64 1, .int .i64 0, .int .i64 16385, .int .i64 1, .int .i64 1, .int .i64 0, .int .i64 0, .int .i64 0, .int .i64 1, .int .i64 0, .int .i64 0, .int .i64 17] 39)) w.heap.size 39 (limT.map limC).flatten.toArray := Blk.new w 39 #[.int .i64 0, .int .i64 0, .int .i64 0, .int .i64 1, .int .i64 5001, .int .i64 0, .int .i64 0, .int .i64 1, .int .i64 1, .int .i64 (-1), .int .i64 0, .int .i64 1, .int .i64 1, .int .i64 4097, .int .i64 0, .int .i64 1, .int .i64 1, .int .i64 0, .int .i64 (-1), .int .i64 1, .int .i64 1, .int .i64 0, .int .i64 16385, .int .i64 1, .int .i64 1, .int .i64 0, .int .i64 0, .int .i64 0, .int .i64 1, .int .i64 0, .int .i64 0, .int .i64 17]
  have HT := Lib.hid hT
  have hPT : w.heap.size < (w.alloc (.cells #[.int .i64 0, .int .i64 0, .int .i64 0, .int .i64 1, .int .i64 5001, .int .i64 0, .int .i64 0, .int .i64 1, .int .i64 1, .int .i64 (-1), .int .i64 0, .int .i64 1, .int .i64 1, .int .i64 4097, .int .i64 0, .int .i64 1, .int .i64 1, .int .i64 0, .int .i64 (-1), .int .i64 1, .int .i64 1, .int .i64 0, .int .i64 16385, .int .i64 1, .int .i64 1, .int .i64 0, .int .i64 0, .int .i64 0, .int .i64 1, .int .i64 0, .int .i64 0, .int .i64 17] 39)).heap.size := hT.lt
  clear hT
  go_wp2_with fail
  have b_ := (Below.refl w.heap.size w).alloc (Nat.le_refl _) (.cells #[.int .i64 0, .int .i64 0, .int .i64 0, .int .i64 1, .int .i64 5001, .int .i64 0, .int .i64 0, .int .i64 1, .int .i64 1, .int .i64 (-1), .int .i64 0, .int .i64 1, .int .i64 1, .int .i64 4097, .int .i64 0, .int .i64 1, .int .i64 1, .int .i64 0, .int .i64 (-1), .int .i64 1, .int .i64 1, .int .i64 0, .int .i64 16385, .int .i64 1, .int .i64 1, .int .i64 0, .int .i64 0, .int .i64 0, .int .i64 1, .int .i64 0, .int .i64 0, .int .i64 17] 39)
  replace hB := hB.trans (b_.mono hB.size)
  clear b_
  generalize (w.alloc (.cells #[.int .i64 0, .int .i64 0, .int .i64 0, .int .i64 1, .int .i64 5001, .int .i64 0, .int .i64 0, .int .i64 1, .int .i64 1, .int .i64 (-1), .int .i64 0, .int .i64 1, .int .i64 1, .int .i64 4097, .int .i64 0, .int .i64 1, .int .i64 1, .int .i64 0, .int .i64 (-1), .int .i64 1, .int .i64 1, .int .i64 0, .int .i64 16385, .int .i64 1, .int .i64 1, .int .i64 0, .int .i64 0, .int .i64 0, .int .i64 1, .int .i64 0, .int .i64 0, .int .i64 17] 39)) = y1 at *
  generalize hG_ : w.heap.size = G1 at HT hPT ⊢
  clear hG_
  have n0 := hB.size
  have HB0 := Lib.hid hB
  clear hB
  go_loopw [2, 3] (fun v i wr => ∃ (j : Nat) (A : Option Addr) (c : Nat), j ≤ 8 ∧ i = .int .i64 (j : Int) ∧ v = .slice A j c ∧ wr.ownsRow y1.heap.size 44 5 (.slice A j c) j ((limT.take j).map scr0C).flatten ∧ Below y1.heap.size y1 wr) (fun _ i _ => 8 - (intOf i).toNat)
  case atStart => exact ⟨0, none, 0, by omega, rfl, rfl, World.ownsRow_nil _ _ _ _, Below.refl _ _⟩
  case round =>
    obtain ⟨j, A, c, hj, rfl, rfl, own, hC⟩ := hrel
    by_cases hlt : j < 8
    · obtain ⟨⟨st, sk, hp, rt⟩, hJ⟩ : ∃ q, limT[j]? = some q := ⟨_, List.getElem?_eq_getElem (show j < limT.length from hlt)⟩
      have HL := Lib.hid (lim_take hJ)
      have q := stru_at limC 4 (fun _ => rfl) (HT.out.below hC hPT) rfl hJ
      have k0 : wr.cell? ⟨G1, j * 4, none⟩ = some (.int .i64 st) := q 0 (by omega)
      have k1 : wr.cell? ⟨G1, j * 4 + 1, none⟩ = some (.int .i64 sk) := q 1 (by omega)
      have k2 : wr.cell? ⟨G1, j * 4 + 2, none⟩ = some (.int .i64 hp) := q 2 (by omega)
      have k3 : wr.cell? ⟨G1, j * 4 + 3, none⟩ = some (.int .i64 rt) := q 3 (by omega)
      clear q hJ
      go_wp2_with (at_builtin; refine wpList_app rfl (.tmp 62) (.tmp 68) _ rfl slSC y1.heap.size _ j _ rfl (own_alloc_ own (.cells #[.slice none 0 0, .int .i64 st, .int .i64 sk, .int .i64 hp, .int .i64 rt] 44)) _ (some ⟨wr.heap.size, 0, none⟩) 1 1 [.slice none 0 0, .int .i64 st, .int .i64 sk, .int .i64 hp, .int .i64 rt] rfl (reads_newT wr 44 [.slice none 0 0, .int .i64 st, .int .i64 sk, .int .i64 hp, .int .i64 rt] 5 1 rfl) (by simp [Value.oneCell']) (by omega) (by have := hC.size; simp; omega) ?_; intro A2 c2 w2 o2 hg2 b2 hc2)
      go_roundw
      case rel => exact ⟨j + 1, A2, c2, by omega, by go_num, rfl, by rw [HL.out]; exact o2, (hC.alloc hC.size _).trans b2⟩
      case measure => simp [intOf]; omega
    · replace hj : j = 8 := by omega
      subst hj
      (try rw [show ((8 : Nat) : Int) = 8 from rfl])
      rw [cells8_is] at own
      have nY := hC.size
      have hB := HB0.out.trans (hC.mono HB0.out.size)
      clear HB0 hC HT hPT
      go_wp2_with fail
      have HN := least11_any wr
      unfold scr at HN
      refine (HN).mono ?_
      rintro e y2 ⟨rfl, b_⟩
      replace own := own_call own b_
      replace nY := Nat.le_trans nY (Below.size b_)
      replace hB := hB.trans (b_.mono hB.size)
      clear b_
      clear HN
      have KF : ∀ W, (Instr.field 44 (.agg #[.slice none 0 0, .int .i64 1, .int .i64 0, .int .i64 0, .int .i64 1]) 1).run Try.prog W = .ok (.agg #[.int .i64 1, .int .i64 0, .int .i64 0, .int .i64 1]) W := fun W => by kernel_rfl
      have hL := Blk.new y2 39 #[.int .i64 1, .int .i64 0, .int .i64 0, .int .i64 1]
      obtain ⟨GL, hGL⟩ : ∃ g, g = y2.heap.size := ⟨_, rfl⟩
      rw [← hGL] at hL
      have b_ := (Below.refl y2.heap.size y2).alloc (Nat.le_refl _) (.cells #[.int .i64 1, .int .i64 0, .int .i64 0, .int .i64 1] 39)
      replace own := own_call own b_
      replace nY := Nat.le_trans nY (Below.size b_)
      replace hB := hB.trans (b_.mono hB.size)
      clear b_
      go_wp2_with fail
      rw [← hGL]
      clear hGL KF
      generalize (y2.alloc (.cells #[.int .i64 1, .int .i64 0, .int .i64 0, .int .i64 1] 39)) = y3 at *
      refine pre_go (m := 11) (fun x W => Below y1.heap.size x W) (prL [mV (.slice A 8 c), mV (.agg #[.int .i64 1, .int .i64 0, .int .i64 0, .int .i64 1]), mI 2001 (zi 2001), mS 2001 (zi 2001), mV (.agg #[.int .i64 1, .int .i64 0, .int .i64 0, .int .i64 1]), mI 1 [-1], mS 1 [-1], mV (.agg #[.int .i64 1, .int .i64 0, .int .i64 0, .int .i64 1]), mI 1 [65536], mS 1 [65536], mT]) [72, 73, 74, 75, 76, 77, 78, 79, 80, 81, 82] (by kernel_rfl) (by kernel_rfl) (fun x W hx hW => hW.mono (Nat.le_trans nY hx.size)) (prL_mv (by intro q hq; simp only [List.mem_cons, List.mem_nil_iff, or_false] at hq; rcases hq with rfl | rfl | rfl | rfl | rfl | rfl | rfl | rfl | rfl | rfl | rfl <;> first | exact mV_mono _ | exact mI_mono _ _ | exact mS_mono _ _ | exact mT_mono)) (fun x hx => ?st) (fun x V W' hx hxW hV => ?en)
      case st =>
        refine Steps.cons (fun d hd a u hS hdep hoth K hK => ?_) ?_
        · refine wp_same (.tmp 2) (.inr rfl) ?_
          exact hK _ _ hS (Below.refl _ _) (hoth 2 (by decide))
        refine Steps.cons (fun d hd a u hS hdep hoth K hK => ?_) ?_
        · refine wp_load_row 39 (.tmp 4) rfl GL (hoth 4 (by decide)) 39 _ (0, 0) _ (Blk.mv (Blk.mv hL hx) hS) Try.underlying39 rfl (by kernel_rfl) ?_
          exact hK _ _ hS (Below.refl _ _) rfl
        refine Steps.cons (fun d hd a u hS hdep hoth K hK => ?_) ?_
        · refine wp_mk (.const (.int .i64 2001)) (.const (.int .i64 2001)) rfl slIN 2001 rfl rfl rfl rfl (by omega) ?_
          intro u' o2 b2
          rw [show (Value.int .i64 0).cells = #[Value.int .i64 0] from rfl, Nat.mul_one, toList_madeCells_one] at o2
          exact hK _ _ (Below.trans hS (b2.mono (Below.size hS))) b2 ⟨_, rfl, own_zi o2⟩
        refine Steps.cons (fun d hd a u hS hdep hoth K hK => ?_) ?_
        · have e1 : a.eval (.tmp 73) = .agg #[.int .i64 1, .int .i64 0, .int .i64 0, .int .i64 1] := hdep 1 73 (by kernel_rfl) rfl
          obtain ⟨g, e2, h⟩ := hdep 2 74 (by kernel_rfl) rfl
          refine wp_bld 44 _ rfl [(1, .agg #[.int .i64 1, .int .i64 0, .int .i64 0, .int .i64 1]), (0, .slice (some ⟨g, 0, none⟩) 2001 2001)] (by simp [e1, e2]) #[.slice (some ⟨g, 0, none⟩) 2001 2001, .int .i64 1, .int .i64 0, .int .i64 0, .int .i64 1] (by kernel_rfl) ?_
          exact hK _ _ hS (Below.refl _ _) ⟨g, rfl, h⟩
        refine Steps.cons (fun d hd a u hS hdep hoth K hK => ?_) ?_
        · refine wp_load_row 39 (.tmp 4) rfl GL (hoth 4 (by decide)) 39 _ (0, 0) _ (Blk.mv (Blk.mv hL hx) hS) Try.underlying39 rfl (by kernel_rfl) ?_
          exact hK _ _ hS (Below.refl _ _) rfl
        refine Steps.cons (fun d hd a u hS hdep hoth K hK => ?_) ?_
        · refine wp_row1 slIN 1 _ rfl [.int .i64 (-1)] (by simp [List.zipIdx, ev_const]) (by simp [Value.cells]) rfl (by omega) (by omega) ?_
          exact hK _ _ (st_al hS _).1 (st_al hS _).2 ⟨_, rfl, Blk.new u 3 _⟩
        refine Steps.cons (fun d hd a u hS hdep hoth K hK => ?_) ?_
        · have e1 : a.eval (.tmp 76) = .agg #[.int .i64 1, .int .i64 0, .int .i64 0, .int .i64 1] := hdep 4 76 (by kernel_rfl) rfl
          obtain ⟨g, e2, h⟩ := hdep 5 77 (by kernel_rfl) rfl
          refine wp_bld 44 _ rfl [(1, .agg #[.int .i64 1, .int .i64 0, .int .i64 0, .int .i64 1]), (0, .slice (some ⟨g, 0, none⟩) 1 1)] (by simp [e1, e2]) #[.slice (some ⟨g, 0, none⟩) 1 1, .int .i64 1, .int .i64 0, .int .i64 0, .int .i64 1] (by kernel_rfl) ?_
          exact hK _ _ hS (Below.refl _ _) ⟨g, rfl, h⟩
        refine Steps.cons (fun d hd a u hS hdep hoth K hK => ?_) ?_
        · refine wp_load_row 39 (.tmp 4) rfl GL (hoth 4 (by decide)) 39 _ (0, 0) _ (Blk.mv (Blk.mv hL hx) hS) Try.underlying39 rfl (by kernel_rfl) ?_
          exact hK _ _ hS (Below.refl _ _) rfl
        refine Steps.cons (fun d hd a u hS hdep hoth K hK => ?_) ?_
        · refine wp_row1 slIN 1 _ rfl [.int .i64 65536] (by simp [List.zipIdx, ev_const]) (by simp [Value.cells]) rfl (by omega) (by omega) ?_
          exact hK _ _ (st_al hS _).1 (st_al hS _).2 ⟨_, rfl, Blk.new u 3 _⟩
        refine Steps.cons (fun d hd a u hS hdep hoth K hK => ?_) ?_
        · have e1 : a.eval (.tmp 79) = .agg #[.int .i64 1, .int .i64 0, .int .i64 0, .int .i64 1] := hdep 7 79 (by kernel_rfl) rfl
          obtain ⟨g, e2, h⟩ := hdep 8 80 (by kernel_rfl) rfl
          refine wp_bld 44 _ rfl [(1, .agg #[.int .i64 1, .int .i64 0, .int .i64 0, .int .i64 1]), (0, .slice (some ⟨g, 0, none⟩) 1 1)] (by simp [e1, e2]) #[.slice (some ⟨g, 0, none⟩) 1 1, .int .i64 1, .int .i64 0, .int .i64 0, .int .i64 1] (by kernel_rfl) ?_
          exact hK _ _ hS (Below.refl _ _) ⟨g, rfl, h⟩
        refine Steps.cons (fun d hd a u hS hdep hoth K hK => ?_) ?_
        · obtain ⟨g0, e0, h0⟩ := hdep 3 75 (by kernel_rfl) rfl
          obtain ⟨g1, e1, h1⟩ := hdep 6 78 (by kernel_rfl) rfl
          obtain ⟨g2, e2, h2⟩ := hdep 9 81 (by kernel_rfl) rfl
          refine wp_rowS slSC 3 _ rfl [scr (some ⟨g0, 0, none⟩) 2001 2001 1 0 0 1, scr (some ⟨g1, 0, none⟩) 1 1 1 0 0 1, scr (some ⟨g2, 0, none⟩) 1 1 1 0 0 1] (by simp [List.zipIdx, e0, e1, e2]) (by simp [Value.cells]) rfl (by omega) (by omega) (by omega) #[.slice (some ⟨g0, 0, none⟩) 2001 2001, .int .i64 1, .int .i64 0, .int .i64 0, .int .i64 1, .slice (some ⟨g1, 0, none⟩) 1 1, .int .i64 1, .int .i64 0, .int .i64 0, .int .i64 1, .slice (some ⟨g2, 0, none⟩) 1 1, .int .i64 1, .int .i64 0, .int .i64 0, .int .i64 1] rfl ?_
          exact hK _ _ (st_al hS _).1 (st_al hS _).2 ⟨_, g0, g1, g2, rfl, Blk.new u 44 _, Blk.mv h0 (st_al hS _).2, Blk.mv h1 (st_al hS _).2, Blk.mv h2 (st_al hS _).2⟩
        exact trivial
      case en =>
        obtain ⟨g, g0, g1, g2, hv, hQ3, h0, h1, h2⟩ : mT (V 10) W' := hV 10 82 rfl
        have hv0 : V 0 = .slice A 8 c := hV 0 72 rfl
        clear hV
        have hW := hx.trans (hxW.mono hx.size)
        have ow := own_call own hW
        have hS0 : Below y1.heap.size x W' := hxW.mono (Nat.le_trans nY hx.size)
        have nW : y1.heap.size ≤ W'.heap.size := Nat.le_trans nY hW.size
        simp only [putL, Act.put, List.setIfInBounds_toArray, List.set_cons_zero, List.set_cons_succ, Nat.zero_add, Nat.reduceAdd]
        rw [hv, hv0]
        refine s_step (i := 11) (oi := ?oi11) (by kernel_rfl) ?hi11 ?hw11 (fun K hK => ?_)
        case hi11 => simp only [List.getElem?_toArray, List.getElem?_cons_zero, List.getElem?_cons_succ]; rfl
        case hw11 => rfl
        refine wp_app (.tmp 72) (.tmp 82) _ (by rfl) slSC y1.heap.size _ 8 _ (by rfl) ow _ (some ⟨g, 0, none⟩) 3 3 [.slice (some ⟨g0, 0, none⟩) 2001 2001, .int .i64 1, .int .i64 0, .int .i64 0, .int .i64 1, .slice (some ⟨g1, 0, none⟩) 1 1, .int .i64 1, .int .i64 0, .int .i64 0, .int .i64 1, .slice (some ⟨g2, 0, none⟩) 1 1, .int .i64 1, .int .i64 0, .int .i64 0, .int .i64 1] (by rfl) (reads_ofBlk hQ3 5 3 rfl) (by simp [Value.oneCell']) (by omega) nW ?_
        intro A9 c9 w9 o9 hg9 b9 hc9
        replace h0 := h0.grown hg9 (fun e_ => own_blk_ne ow h0 (by decide) e_.symm)
        replace h1 := h1.grown hg9 (fun e_ => own_blk_ne ow h1 (by decide) e_.symm)
        replace h2 := h2.grown hg9 (fun e_ => own_blk_ne ow h2 (by decide) e_.symm)
        obtain ⟨gT, rfl, HTB⟩ := tb_of o9 h0 h1 h2
        have hB9 : Below w.heap.size w w9 := (hB.trans (hW.mono hB.size)).trans (b9.mono n0)
        refine hK _ _ (hS0.trans b9) ?_
        try simp only [Act.put, List.setIfInBounds_toArray, List.set_cons_zero, List.set_cons_succ]
        clear hK
        refine s_step (i := 12) (oi := ?oi12) (by kernel_rfl) ?hi12 ?hw12 (fun K hK => ?_)
        case hi12 => simp only [List.getElem?_toArray, List.getElem?_cons_zero, List.getElem?_cons_succ]; rfl
        case hw12 => rfl
        go_simp
        refine hK _ _ (hS0.trans b9) ?_
        try simp only [List.setIfInBounds_toArray]
        clear hK
        refine wpAnyH_done (by kernel_rfl) ?_ _
        clear o9 hg9 b9 hc9 h0 h1 h2 hS0 ow hW hxW hx hv hv0 hQ3 own hB nY nW hL
        have hB := hB9
        clear hB9
        have HTB := Lib.hid HTB
        go_wp2_with fail
        have HB0 := Lib.hid hB
        clear hB
        go_loopw [5] (fun i wr => ∃ j : Nat, j ≤ 11 ∧ i = .int .i64 (j : Int) ∧ Below w9.heap.size w9 wr) (fun i _ => 11 - (intOf i).toNat)
        case atStart => exact ⟨0, by omega, rfl, Below.refl _ _⟩
        case round =>
          obtain ⟨j, hj, rfl, hC⟩ := hrel
          by_cases hlt : j < 11
          · have hB := hC
            obtain ⟨A, n, c, st, sk, hp, rt, l, k0, k1, k2, k3, k4, plt, hn, hnc, R, hbad⟩ := (HTB.out.mv hC) j hlt
            go_wp2_with fail
            refine (bad_enc _ R hn hnc hbad).mono ?_
            rintro e y4 ⟨⟨A1, c1, rfl⟩, b_⟩
            replace k0 := (b_.cell (p := ⟨gT, j * 5, none⟩) plt).trans k0
            replace k1 := (b_.cell (p := ⟨gT, j * 5 + 1, none⟩) plt).trans k1
            replace k2 := (b_.cell (p := ⟨gT, j * 5 + 2, none⟩) plt).trans k2
            replace k3 := (b_.cell (p := ⟨gT, j * 5 + 3, none⟩) plt).trans k3
            replace k4 := (b_.cell (p := ⟨gT, j * 5 + 4, none⟩) plt).trans k4
            replace plt := Nat.lt_of_lt_of_le plt b_.size
            replace R := R.mv b_
            replace hB := hB.trans (b_.mono hB.size)
            clear b_
            go_wp2_with fail
            refine (bad_cut _ R hn hnc hbad).mono ?_
            rintro e y5 ⟨⟨A2, c2, rfl⟩, b_⟩
            replace k0 := (b_.cell (p := ⟨gT, j * 5, none⟩) plt).trans k0
            replace k1 := (b_.cell (p := ⟨gT, j * 5 + 1, none⟩) plt).trans k1
            replace k2 := (b_.cell (p := ⟨gT, j * 5 + 2, none⟩) plt).trans k2
            replace k3 := (b_.cell (p := ⟨gT, j * 5 + 3, none⟩) plt).trans k3
            replace k4 := (b_.cell (p := ⟨gT, j * 5 + 4, none⟩) plt).trans k4
            replace plt := Nat.lt_of_lt_of_le plt b_.size
            replace R := R.mv b_
            replace hB := hB.trans (b_.mono hB.size)
            clear b_
            have b_ := (Below.refl y5.heap.size y5).alloc (Nat.le_refl _) (.cells #[.slice A2 0 c2, .int .i64 0, .int .i64 0, .int .i64 0, .int .i64 0] 44)
            replace k0 := (b_.cell (p := ⟨gT, j * 5, none⟩) plt).trans k0
            replace k1 := (b_.cell (p := ⟨gT, j * 5 + 1, none⟩) plt).trans k1
            replace k2 := (b_.cell (p := ⟨gT, j * 5 + 2, none⟩) plt).trans k2
            replace k3 := (b_.cell (p := ⟨gT, j * 5 + 3, none⟩) plt).trans k3
            replace k4 := (b_.cell (p := ⟨gT, j * 5 + 4, none⟩) plt).trans k4
            replace plt := Nat.lt_of_lt_of_le plt b_.size
            clear b_
            have b_ := (Below.refl y5.heap.size y5).alloc (Nat.le_refl _) (.cells #[.slice A2 0 c2, .int .i64 0, .int .i64 0, .int .i64 0, .int .i64 0] 44)
            replace R := R.mv b_
            replace hB := hB.trans (b_.mono hB.size)
            clear b_
            go_wp2_with fail
            generalize (y5.alloc (.cells #[.slice A2 0 c2, .int .i64 0, .int .i64 0, .int .i64 0, .int .i64 0] 44)) = y6 at *
            refine (bad_chk _ R hn hnc hbad).mono ?_
            rintro e y7 ⟨rfl, b_⟩
            replace k0 := (b_.cell (p := ⟨gT, j * 5, none⟩) plt).trans k0
            replace k1 := (b_.cell (p := ⟨gT, j * 5 + 1, none⟩) plt).trans k1
            replace k2 := (b_.cell (p := ⟨gT, j * 5 + 2, none⟩) plt).trans k2
            replace k3 := (b_.cell (p := ⟨gT, j * 5 + 3, none⟩) plt).trans k3
            replace k4 := (b_.cell (p := ⟨gT, j * 5 + 4, none⟩) plt).trans k4
            replace plt := Nat.lt_of_lt_of_le plt b_.size
            replace R := R.mv b_
            replace hB := hB.trans (b_.mono hB.size)
            clear b_
            go_wp2_with fail
            go_roundw
            case rel => exact ⟨j + 1, by omega, by go_num, hB⟩
            case measure => simp [intOf]; omega
          · replace hj : j = 11 := by omega
            subst hj
            (try rw [show ((11 : Nat) : Int) = 11 from rfl])
            have hB := HB0.out.trans (hC.mono HB0.out.size)
            clear HB0 hC
            clear HTB
            obtain ⟨ym, hym⟩ : ∃ x, x = wr := ⟨_, rfl⟩
            rw [← hym] at hB ⊢
            clear hym
            go_upto_region 17 with (refine wpList_mk1 _ rfl (.const (.int .i64 2000)) (.const (.int .i64 2000)) rfl slIN rfl 2000 (by rfl) (by rfl) rfl rfl (by omega) ?_; intro wm o16 b_)
            have hM := own_blk o16
            rw [← upto_zero .i64 2000 65535] at hM
            have hlt16 : ym.heap.size < wm.heap.size := hM.lt
            have hS := Blk.new wm 44 #[.slice (some ⟨ym.heap.size, 0, none⟩) 2000 2000, .int .i64 5000, .int .i64 4096, .int .i64 16384, .int .i64 16]
            replace hM := hM.alloc (.cells #[.slice (some ⟨ym.heap.size, 0, none⟩) 2000 2000, .int .i64 5000, .int .i64 4096, .int .i64 16384, .int .i64 16] 44)
            have bm : Below ym.heap.size ym (wm.alloc (.cells #[.slice (some ⟨ym.heap.size, 0, none⟩) 2000 2000, .int .i64 5000, .int .i64 4096, .int .i64 16384, .int .i64 16] 44)) := b_.alloc b_.size (.cells #[.slice (some ⟨ym.heap.size, 0, none⟩) 2000 2000, .int .i64 5000, .int .i64 4096, .int .i64 16384, .int .i64 16] 44)
            clear o16 b_
            obtain ⟨GS, hGS⟩ : ∃ g, g = wm.heap.size := ⟨_, rfl⟩
            rw [← hGS] at hS hlt16 ⊢
            clear hGS
            generalize wm.alloc (.cells #[.slice (some ⟨ym.heap.size, 0, none⟩) 2000 2000, .int .i64 5000, .int .i64 4096, .int .i64 16384, .int .i64 16] 44) = wn at *
            go_wp2_with fail
            have HB0 := Lib.hid hB
            clear hB
            go_loopw [11] (fun i wr => ∃ j : Nat, j ≤ 2000 ∧ i = .int .i64 (j : Int) ∧ Blk wr ym.heap.size 3 (arr .i64 2000 (upto 65535 j)) ∧ Blk wr GS 44 #[.slice (some ⟨ym.heap.size, 0, none⟩) 2000 2000, .int .i64 5000, .int .i64 4096, .int .i64 16384, .int .i64 16] ∧ Below ym.heap.size ym wr) (fun i _ => 2000 - (intOf i).toNat)
            case atStart => exact ⟨0, by omega, rfl, hM, hS, bm⟩
            case round =>
              clear hM hS bm
              obtain ⟨j, hj, rfl, hM, hS, hC⟩ := hrel
              by_cases hlt : j < 2000
              · have hc := hM.arr_cell hlt
                have hf := hM.frozen j
                obtain ⟨s0, _⟩ := Blk.cf5 hS
                go_wp2_with fail
                go_roundw
                case rel => exact ⟨j + 1, by omega, by go_num, by rw [← upto_set]; exact hM.set_ _ _, hS.far (by simp <;> omega) _, hC.setCell (Nat.le_refl _) _⟩
                case measure => simp [intOf]; omega
              · replace hj : j = 2000 := by omega
                subst hj
                (try rw [show ((2000 : Nat) : Int) = 2000 from rfl])
                have RM := P2_blk hM
                clear hM
                have hB := HB0.out.trans (hC.mono HB0.out.size)
                clear HB0 hC
                obtain ⟨s0, _, s1, _, s2, _, s3, _, s4, _⟩ := Blk.cf5 hS
                go_wp2_with fail
                have HN := encode11_any _ 2000 2000 P2 5000 4096 16384 16 _ RM (by omega)
                rw [en_most.1, en_most.2] at HN
                refine (HN).mono ?_
                rintro e y8 ⟨A12, c12, rfl, o12, b_⟩
                replace RM := RM.mv b_
                replace hS := Blk.mv hS b_
                replace hB := hB.trans (b_.mono hB.size)
                clear b_
                clear HN s0 s1 s2 s3 s4
                have RE := own_rd o12
                have hcap := (own_cap o12).1
                clear o12
                go_wp2_with fail
                have HN := decode_ok A12 EB.length c12 EB 5000 4096 16384 16 P2 _ RE hcap (by rw [EB_len]; omega) sc_most rfl
                rw [P2_len] at HN
                refine (HN).mono ?_
                rintro e y9 ⟨A14, c14, rfl, RK, b_⟩
                replace RM := RM.mv b_
                replace hS := Blk.mv hS b_
                replace RE := RE.mv b_
                replace hB := hB.trans (b_.mono hB.size)
                clear b_
                clear HN RE hcap
                have hK := Blk.new y9 44 #[.slice A14 2000 c14, .int .i64 5000, .int .i64 4096, .int .i64 16384, .int .i64 16]
                obtain ⟨GK, hGK_⟩ : ∃ x, x = y9.heap.size := ⟨_, rfl⟩
                rw [← hGK_] at hK
                have b_ := (Below.refl y9.heap.size y9).alloc (Nat.le_refl _) (.cells #[.slice A14 2000 c14, .int .i64 5000, .int .i64 4096, .int .i64 16384, .int .i64 16] 44)
                replace RM := RM.mv b_
                replace hS := Blk.mv hS b_
                replace RK := RK.mv b_
                replace hB := hB.trans (b_.mono hB.size)
                clear b_
                go_upto_region 23 with (fail)
                rw [← hGK_]
                clear hGK_
                generalize (y9.alloc (.cells #[.slice A14 2000 c14, .int .i64 5000, .int .i64 4096, .int .i64 16384, .int .i64 16] 44)) = y10 at *
                go_wp2_with fail
                refine (least11_any y10).mono ?_
                rintro e y11 ⟨rfl, b_⟩
                replace RM := RM.mv b_
                replace hS := Blk.mv hS b_
                replace RK := RK.mv b_
                replace hK := Blk.mv hK b_
                replace hB := hB.trans (b_.mono hB.size)
                clear b_
                go_wp2_with fail
                refine (cut_arg 1 (by omega) (by decide) y11).mono ?_
                rintro e y12 ⟨⟨A24, c24, rfl⟩, b_⟩
                replace RM := RM.mv b_
                replace hS := Blk.mv hS b_
                replace RK := RK.mv b_
                replace hK := Blk.mv hK b_
                replace hB := hB.trans (b_.mono hB.size)
                clear b_
                have b_ := (Below.refl y12.heap.size y12).alloc (Nat.le_refl _) (.cells #[.slice A24 0 c24, .int .i64 0, .int .i64 0, .int .i64 0, .int .i64 0] 44)
                replace RM := RM.mv b_
                replace hS := Blk.mv hS b_
                replace RK := RK.mv b_
                replace hK := Blk.mv hK b_
                replace hB := hB.trans (b_.mono hB.size)
                clear b_
                go_upto_region 24 with (fail)
                generalize (y12.alloc (.cells #[.slice A24 0 c24, .int .i64 0, .int .i64 0, .int .i64 0, .int .i64 0] 44)) = y13 at *
                go_wp2_with fail
                refine (least11_any y13).mono ?_
                rintro e y14 ⟨rfl, b_⟩
                replace RM := RM.mv b_
                replace hS := Blk.mv hS b_
                replace RK := RK.mv b_
                replace hK := Blk.mv hK b_
                replace hB := hB.trans (b_.mono hB.size)
                clear b_
                go_wp2_with fail
                refine (cut_arg (-1) (by omega) (by decide) y14).mono ?_
                rintro e y15 ⟨⟨A25, c25, rfl⟩, b_⟩
                replace RM := RM.mv b_
                replace hS := Blk.mv hS b_
                replace RK := RK.mv b_
                replace hK := Blk.mv hK b_
                replace hB := hB.trans (b_.mono hB.size)
                clear b_
                have b_ := (Below.refl y15.heap.size y15).alloc (Nat.le_refl _) (.cells #[.slice A25 0 c25, .int .i64 0, .int .i64 0, .int .i64 0, .int .i64 0] 44)
                replace RM := RM.mv b_
                replace hS := Blk.mv hS b_
                replace RK := RK.mv b_
                replace hK := Blk.mv hK b_
                replace hB := hB.trans (b_.mono hB.size)
                clear b_
                go_upto_region 25 with (fail)
                generalize (y15.alloc (.cells #[.slice A25 0 c25, .int .i64 0, .int .i64 0, .int .i64 0, .int .i64 0] 44)) = y16 at *
                go_wp2_with (refine wpList_mk1 _ rfl (.const (.int .i64 6101)) (.const (.int .i64 6101)) rfl sl8s rfl 6101 (by rfl) (by rfl) rfl rfl (by omega) ?_; intro y17 o25 b_)
                have R25 := rb_z o25
                clear o25
                replace RM := RM.mv b_
                replace hS := Blk.mv hS b_
                replace RK := RK.mv b_
                replace hK := Blk.mv hK b_
                replace hB := hB.trans (b_.mono hB.size)
                clear b_
                refine (bad_dec _ R25 (by omega) 4 dc_long (by omega)).mono ?_
                rintro e y18 ⟨⟨A26, c26, rfl⟩, b_⟩
                replace RM := RM.mv b_
                replace hS := Blk.mv hS b_
                replace RK := RK.mv b_
                replace hK := Blk.mv hK b_
                replace hB := hB.trans (b_.mono hB.size)
                clear b_
                clear R25
                have b_ := (Below.refl y18.heap.size y18).alloc (Nat.le_refl _) (.cells #[.slice A26 0 c26, .int .i64 0, .int .i64 0, .int .i64 0, .int .i64 0] 44)
                replace RM := RM.mv b_
                replace hS := Blk.mv hS b_
                replace RK := RK.mv b_
                replace hK := Blk.mv hK b_
                replace hB := hB.trans (b_.mono hB.size)
                clear b_
                go_upto_region 26 with (fail)
                generalize (y18.alloc (.cells #[.slice A26 0 c26, .int .i64 0, .int .i64 0, .int .i64 0, .int .i64 0] 44)) = y19 at *
                go_wp2_with fail
                refine (bad_dec (A := none) (n := 0) (c := 0) (l := []) y19 Reads.none_ (by omega) 12 (by decide +kernel) (by omega)).mono ?_
                rintro e y20 ⟨⟨A27, c27, rfl⟩, b_⟩
                replace RM := RM.mv b_
                replace hS := Blk.mv hS b_
                replace RK := RK.mv b_
                replace hK := Blk.mv hK b_
                replace hB := hB.trans (b_.mono hB.size)
                clear b_
                have b_ := (Below.refl y20.heap.size y20).alloc (Nat.le_refl _) (.cells #[.slice A27 0 c27, .int .i64 0, .int .i64 0, .int .i64 0, .int .i64 0] 44)
                replace RM := RM.mv b_
                replace hS := Blk.mv hS b_
                replace RK := RK.mv b_
                replace hK := Blk.mv hK b_
                replace hB := hB.trans (b_.mono hB.size)
                clear b_
                go_upto_region 27 with (fail)
                generalize (y20.alloc (.cells #[.slice A27 0 c27, .int .i64 0, .int .i64 0, .int .i64 0, .int .i64 0] 44)) = y21 at *
                have RL : Rb (y21.alloc (.cells #[.int .u8 1, .int .u8 0, .int .u8 0, .int .u8 1, .int .u8 1] 5)) (some ⟨y21.heap.size, 0, none⟩) 5 [1, 0, 0, 1, 1] := reads_bytes y21 [1, 0, 0, 1, 1] 5
                go_wp2_with fail
                have b_ := (Below.refl y21.heap.size y21).alloc (Nat.le_refl _) (.cells #[.int .u8 1, .int .u8 0, .int .u8 0, .int .u8 1, .int .u8 1] 5)
                replace RM := RM.mv b_
                replace hS := Blk.mv hS b_
                replace RK := RK.mv b_
                replace hK := Blk.mv hK b_
                replace hB := hB.trans (b_.mono hB.size)
                clear b_
                refine (bad_dec _ RL (by omega) 12 (by decide +kernel) (by omega)).mono ?_
                rintro e y22 ⟨⟨A28, c28, rfl⟩, b_⟩
                replace RM := RM.mv b_
                replace hS := Blk.mv hS b_
                replace RK := RK.mv b_
                replace hK := Blk.mv hK b_
                replace hB := hB.trans (b_.mono hB.size)
                clear b_
                clear RL
                have b_ := (Below.refl y22.heap.size y22).alloc (Nat.le_refl _) (.cells #[.slice A28 0 c28, .int .i64 0, .int .i64 0, .int .i64 0, .int .i64 0] 44)
                replace RM := RM.mv b_
                replace hS := Blk.mv hS b_
                replace RK := RK.mv b_
                replace hK := Blk.mv hK b_
                replace hB := hB.trans (b_.mono hB.size)
                clear b_
                go_upto_region 28 with (fail)
                generalize (y22.alloc (.cells #[.slice A28 0 c28, .int .i64 0, .int .i64 0, .int .i64 0, .int .i64 0] 44)) = y23 at *
                have RL : Rb (y23.alloc (.cells #[.int .u8 1, .int .u8 0, .int .u8 0, .int .u8 1, .int .u8 0, .int .u8 0] 5)) (some ⟨y23.heap.size, 0, none⟩) 6 [1, 0, 0, 1, 0, 0] := reads_bytes y23 [1, 0, 0, 1, 0, 0] 5
                go_wp2_with fail
                have b_ := (Below.refl y23.heap.size y23).alloc (Nat.le_refl _) (.cells #[.int .u8 1, .int .u8 0, .int .u8 0, .int .u8 1, .int .u8 0, .int .u8 0] 5)
                replace RM := RM.mv b_
                replace hS := Blk.mv hS b_
                replace RK := RK.mv b_
                replace hK := Blk.mv hK b_
                replace hB := hB.trans (b_.mono hB.size)
                clear b_
                refine (bad_dec _ RL (by omega) 12 (by decide +kernel) (by omega)).mono ?_
                rintro e y24 ⟨⟨A29, c29, rfl⟩, b_⟩
                replace RM := RM.mv b_
                replace hS := Blk.mv hS b_
                replace RK := RK.mv b_
                replace hK := Blk.mv hK b_
                replace hB := hB.trans (b_.mono hB.size)
                clear b_
                clear RL
                have b_ := (Below.refl y24.heap.size y24).alloc (Nat.le_refl _) (.cells #[.slice A29 0 c29, .int .i64 0, .int .i64 0, .int .i64 0, .int .i64 0] 44)
                replace RM := RM.mv b_
                replace hS := Blk.mv hS b_
                replace RK := RK.mv b_
                replace hK := Blk.mv hK b_
                replace hB := hB.trans (b_.mono hB.size)
                clear b_
                go_upto_region 29 with (fail)
                generalize (y24.alloc (.cells #[.slice A29 0 c29, .int .i64 0, .int .i64 0, .int .i64 0, .int .i64 0] 44)) = y25 at *
                have RL : Rb (y25.alloc (.cells #[.int .u8 0, .int .u8 0, .int .u8 0, .int .u8 1, .int .u8 0] 5)) (some ⟨y25.heap.size, 0, none⟩) 5 [0, 0, 0, 1, 0] := reads_bytes y25 [0, 0, 0, 1, 0] 5
                go_wp2_with fail
                have b_ := (Below.refl y25.heap.size y25).alloc (Nat.le_refl _) (.cells #[.int .u8 0, .int .u8 0, .int .u8 0, .int .u8 1, .int .u8 0] 5)
                replace RM := RM.mv b_
                replace hS := Blk.mv hS b_
                replace RK := RK.mv b_
                replace hK := Blk.mv hK b_
                replace hB := hB.trans (b_.mono hB.size)
                clear b_
                refine (bad_dec _ RL (by omega) 12 (by decide +kernel) (by omega)).mono ?_
                rintro e y26 ⟨⟨A30, c30, rfl⟩, b_⟩
                replace RM := RM.mv b_
                replace hS := Blk.mv hS b_
                replace RK := RK.mv b_
                replace hK := Blk.mv hK b_
                replace hB := hB.trans (b_.mono hB.size)
                clear b_
                clear RL
                have b_ := (Below.refl y26.heap.size y26).alloc (Nat.le_refl _) (.cells #[.slice A30 0 c30, .int .i64 0, .int .i64 0, .int .i64 0, .int .i64 0] 44)
                replace RM := RM.mv b_
                replace hS := Blk.mv hS b_
                replace RK := RK.mv b_
                replace hK := Blk.mv hK b_
                replace hB := hB.trans (b_.mono hB.size)
                clear b_
                go_upto_region 30 with (fail)
                generalize (y26.alloc (.cells #[.slice A30 0 c30, .int .i64 0, .int .i64 0, .int .i64 0, .int .i64 0] 44)) = y27 at *
                have RL : Rb (y27.alloc (.cells #[.int .u8 129, .int .u8 0, .int .u8 0, .int .u8 0, .int .u8 1, .int .u8 0] 5)) (some ⟨y27.heap.size, 0, none⟩) 6 [129, 0, 0, 0, 1, 0] := reads_bytes y27 [129, 0, 0, 0, 1, 0] 5
                go_wp2_with fail
                have b_ := (Below.refl y27.heap.size y27).alloc (Nat.le_refl _) (.cells #[.int .u8 129, .int .u8 0, .int .u8 0, .int .u8 0, .int .u8 1, .int .u8 0] 5)
                replace RM := RM.mv b_
                replace hS := Blk.mv hS b_
                replace RK := RK.mv b_
                replace hK := Blk.mv hK b_
                replace hB := hB.trans (b_.mono hB.size)
                clear b_
                refine (bad_dec _ RL (by omega) 12 (by decide +kernel) (by omega)).mono ?_
                rintro e y28 ⟨⟨A31, c31, rfl⟩, b_⟩
                replace RM := RM.mv b_
                replace hS := Blk.mv hS b_
                replace RK := RK.mv b_
                replace hK := Blk.mv hK b_
                replace hB := hB.trans (b_.mono hB.size)
                clear b_
                clear RL
                have b_ := (Below.refl y28.heap.size y28).alloc (Nat.le_refl _) (.cells #[.slice A31 0 c31, .int .i64 0, .int .i64 0, .int .i64 0, .int .i64 0] 44)
                replace RM := RM.mv b_
                replace hS := Blk.mv hS b_
                replace RK := RK.mv b_
                replace hK := Blk.mv hK b_
                replace hB := hB.trans (b_.mono hB.size)
                clear b_
                go_upto_region 31 with (fail)
                generalize (y28.alloc (.cells #[.slice A31 0 c31, .int .i64 0, .int .i64 0, .int .i64 0, .int .i64 0] 44)) = y29 at *
                have RL : Rb (y29.alloc (.cells #[.int .u8 1, .int .u8 0, .int .u8 0, .int .u8 1, .int .u8 1, .int .u8 128, .int .u8 128, .int .u8 4] 5)) (some ⟨y29.heap.size, 0, none⟩) 8 [1, 0, 0, 1, 1, 128, 128, 4] := reads_bytes y29 [1, 0, 0, 1, 1, 128, 128, 4] 5
                go_wp2_with fail
                have b_ := (Below.refl y29.heap.size y29).alloc (Nat.le_refl _) (.cells #[.int .u8 1, .int .u8 0, .int .u8 0, .int .u8 1, .int .u8 1, .int .u8 128, .int .u8 128, .int .u8 4] 5)
                replace RM := RM.mv b_
                replace hS := Blk.mv hS b_
                replace RK := RK.mv b_
                replace hK := Blk.mv hK b_
                replace hB := hB.trans (b_.mono hB.size)
                clear b_
                refine (bad_dec _ RL (by omega) 12 (by decide +kernel) (by omega)).mono ?_
                rintro e y30 ⟨⟨A32, c32, rfl⟩, b_⟩
                replace RM := RM.mv b_
                replace hS := Blk.mv hS b_
                replace RK := RK.mv b_
                replace hK := Blk.mv hK b_
                replace hB := hB.trans (b_.mono hB.size)
                clear b_
                clear RL
                have b_ := (Below.refl y30.heap.size y30).alloc (Nat.le_refl _) (.cells #[.slice A32 0 c32, .int .i64 0, .int .i64 0, .int .i64 0, .int .i64 0] 44)
                replace RM := RM.mv b_
                replace hS := Blk.mv hS b_
                replace RK := RK.mv b_
                replace hK := Blk.mv hK b_
                replace hB := hB.trans (b_.mono hB.size)
                clear b_
                go_upto_region 32 with (fail)
                generalize (y30.alloc (.cells #[.slice A32 0 c32, .int .i64 0, .int .i64 0, .int .i64 0, .int .i64 0] 44)) = y31 at *
                have RL : Rb (y31.alloc (.cells #[.int .u8 1, .int .u8 0, .int .u8 0, .int .u8 1, .int .u8 0] 5)) (some ⟨y31.heap.size, 0, none⟩) 5 [1, 0, 0, 1, 0] := reads_bytes y31 [1, 0, 0, 1, 0] 5
                go_wp2_with fail
                have HN := decode_ok (some ⟨y31.heap.size, 0, none⟩) 5 5 [1, 0, 0, 1, 0] 1 0 0 1 [] _ RL (by omega) (by omega) (by decide) (by decide +kernel)
                rw [show ([] : List Int).length = 0 from rfl] at HN
                have b_ := (Below.refl y31.heap.size y31).alloc (Nat.le_refl _) (.cells #[.int .u8 1, .int .u8 0, .int .u8 0, .int .u8 1, .int .u8 0] 5)
                replace RM := RM.mv b_
                replace hS := Blk.mv hS b_
                replace RK := RK.mv b_
                replace hK := Blk.mv hK b_
                replace hB := hB.trans (b_.mono hB.size)
                clear b_
                refine (HN).mono ?_
                rintro e y32 ⟨A34, c34, rfl, RO, b_⟩
                replace RM := RM.mv b_
                replace hS := Blk.mv hS b_
                replace RK := RK.mv b_
                replace hK := Blk.mv hK b_
                replace hB := hB.trans (b_.mono hB.size)
                clear b_
                clear HN RL
                have hO := Blk.new y32 44 #[.slice A34 0 c34, .int .i64 1, .int .i64 0, .int .i64 0, .int .i64 1]
                obtain ⟨GO, hGO_⟩ : ∃ x, x = y32.heap.size := ⟨_, rfl⟩
                rw [← hGO_] at hO
                have b_ := (Below.refl y32.heap.size y32).alloc (Nat.le_refl _) (.cells #[.slice A34 0 c34, .int .i64 1, .int .i64 0, .int .i64 0, .int .i64 1] 44)
                replace RM := RM.mv b_
                replace hS := Blk.mv hS b_
                replace RK := RK.mv b_
                replace hK := Blk.mv hK b_
                replace RO := RO.mv b_
                replace hB := hB.trans (b_.mono hB.size)
                clear b_
                go_upto_region 33 with (fail)
                rw [← hGO_]
                clear hGO_
                generalize (y32.alloc (.cells #[.slice A34 0 c34, .int .i64 1, .int .i64 0, .int .i64 0, .int .i64 1] 44)) = y33 at *
                go_wp2_with fail
                refine (pick_is (-1) 1 0 2 y33 (by decide) (by decide)).mono ?_
                rintro e y34 ⟨rfl, b_⟩
                replace RM := RM.mv b_
                replace hS := Blk.mv hS b_
                replace RK := RK.mv b_
                replace hK := Blk.mv hK b_
                replace RO := RO.mv b_
                replace hO := Blk.mv hO b_
                replace hB := hB.trans (b_.mono hB.size)
                clear b_
                go_wp2_with fail
                refine (pick_is 65536 1 0 2 y34 (by decide) (by decide)).mono ?_
                rintro e y35 ⟨rfl, b_⟩
                replace RM := RM.mv b_
                replace hS := Blk.mv hS b_
                replace RK := RK.mv b_
                replace hK := Blk.mv hK b_
                replace RO := RO.mv b_
                replace hO := Blk.mv hO b_
                replace hB := hB.trans (b_.mono hB.size)
                clear b_
                go_wp2_with fail
                refine (pick_is 0 (-1) 0 2 y35 (by decide) (by decide)).mono ?_
                rintro e y36 ⟨rfl, b_⟩
                replace RM := RM.mv b_
                replace hS := Blk.mv hS b_
                replace RK := RK.mv b_
                replace hK := Blk.mv hK b_
                replace RO := RO.mv b_
                replace hO := Blk.mv hO b_
                replace hB := hB.trans (b_.mono hB.size)
                clear b_
                go_wp2_with fail
                refine (pick_is 0 17 0 2 y36 (by decide) (by decide)).mono ?_
                rintro e y37 ⟨rfl, b_⟩
                replace RM := RM.mv b_
                replace hS := Blk.mv hS b_
                replace RK := RK.mv b_
                replace hK := Blk.mv hK b_
                replace RO := RO.mv b_
                replace hO := Blk.mv hO b_
                replace hB := hB.trans (b_.mono hB.size)
                clear b_
                go_wp2_with fail
                refine (pick_is 65535 0 0 6 y37 (by decide) (by decide)).mono ?_
                rintro e y38 ⟨rfl, b_⟩
                replace RM := RM.mv b_
                replace hS := Blk.mv hS b_
                replace RK := RK.mv b_
                replace hK := Blk.mv hK b_
                replace RO := RO.mv b_
                replace hO := Blk.mv hO b_
                replace hB := hB.trans (b_.mono hB.size)
                clear b_
                go_wp2_with fail
                rw [show EB.length = 6010 from EB_len]
                refine nop_wp (ext_start (by kernel_rfl) calm_nop (fun hQ => ?_))
                have bd : Below y38.heap.size y38 y38.drew := (Below.refl y38.heap.size y38).drew
                replace RM := RM.mv bd
                replace hS := Blk.mv hS bd
                replace RK := RK.mv bd
                replace hK := Blk.mv hK bd
                replace RO := RO.mv bd
                replace hO := Blk.mv hO bd
                replace hB := hB.trans (bd.mono hB.size)
                clear bd
                generalize y38.drew = y39 at *
                have XhS0 : ∀ W, Ext y39 W → W.cell? ⟨GS, 0, none⟩ = some (.slice (some ⟨ym.heap.size, 0, none⟩) 2000 2000) := fun W h_ => ((hS.below h_ hS.lt).cell 0).trans rfl
                have XhS1 : ∀ W, Ext y39 W → W.cell? ⟨GS, 1, none⟩ = some (.int .i64 5000) := fun W h_ => ((hS.below h_ hS.lt).cell 1).trans rfl
                have XhS2 : ∀ W, Ext y39 W → W.cell? ⟨GS, 2, none⟩ = some (.int .i64 4096) := fun W h_ => ((hS.below h_ hS.lt).cell 2).trans rfl
                have XhS3 : ∀ W, Ext y39 W → W.cell? ⟨GS, 3, none⟩ = some (.int .i64 16384) := fun W h_ => ((hS.below h_ hS.lt).cell 3).trans rfl
                have XhS4 : ∀ W, Ext y39 W → W.cell? ⟨GS, 4, none⟩ = some (.int .i64 16) := fun W h_ => ((hS.below h_ hS.lt).cell 4).trans rfl
                have XhK0 : ∀ W, Ext y39 W → W.cell? ⟨GK, 0, none⟩ = some (.slice A14 2000 c14) := fun W h_ => ((hK.below h_ hK.lt).cell 0).trans rfl
                have XhK1 : ∀ W, Ext y39 W → W.cell? ⟨GK, 1, none⟩ = some (.int .i64 5000) := fun W h_ => ((hK.below h_ hK.lt).cell 1).trans rfl
                have XhK2 : ∀ W, Ext y39 W → W.cell? ⟨GK, 2, none⟩ = some (.int .i64 4096) := fun W h_ => ((hK.below h_ hK.lt).cell 2).trans rfl
                have XhK3 : ∀ W, Ext y39 W → W.cell? ⟨GK, 3, none⟩ = some (.int .i64 16384) := fun W h_ => ((hK.below h_ hK.lt).cell 3).trans rfl
                have XhK4 : ∀ W, Ext y39 W → W.cell? ⟨GK, 4, none⟩ = some (.int .i64 16) := fun W h_ => ((hK.below h_ hK.lt).cell 4).trans rfl
                have XhO0 : ∀ W, Ext y39 W → W.cell? ⟨GO, 0, none⟩ = some (.slice A34 0 c34) := fun W h_ => ((hO.below h_ hO.lt).cell 0).trans rfl
                have XhO1 : ∀ W, Ext y39 W → W.cell? ⟨GO, 1, none⟩ = some (.int .i64 1) := fun W h_ => ((hO.below h_ hO.lt).cell 1).trans rfl
                have XhO2 : ∀ W, Ext y39 W → W.cell? ⟨GO, 2, none⟩ = some (.int .i64 0) := fun W h_ => ((hO.below h_ hO.lt).cell 2).trans rfl
                have XhO3 : ∀ W, Ext y39 W → W.cell? ⟨GO, 3, none⟩ = some (.int .i64 0) := fun W h_ => ((hO.below h_ hO.lt).cell 3).trans rfl
                have XhO4 : ∀ W, Ext y39 W → W.cell? ⟨GO, 4, none⟩ = some (.int .i64 1) := fun W h_ => ((hO.below h_ hO.lt).cell 4).trans rfl
                refine ext_take (i := 0) (oi := ?oiv0) (v := ?vv0) ?hiv0 (by kernel_rfl) (by kernel_rfl) (by kernel_rfl) hQ ?hwv0 ?hyv0 ?restv0
                case hiv0 => simp only [List.getElem?_toArray, List.getElem?_cons_zero]; rfl
                case hwv0 => rfl
                case hyv0 => intro W hW; go_simp; with_reducible rfl
                simp only [Act.put, List.setIfInBounds_toArray, List.set_cons_zero, List.set_cons_succ]
                refine ext_take (i := 1) (oi := ?oiv1) (v := ?vv1) ?hiv1 (by kernel_rfl) (by kernel_rfl) (by kernel_rfl) hQ ?hwv1 ?hyv1 ?restv1
                case hiv1 => simp only [List.getElem?_toArray, List.getElem?_cons_zero, List.getElem?_cons_succ]; rfl
                case hwv1 => rfl
                case hyv1 => intro W hW; go_simp; with_reducible rfl
                simp only [Act.put, List.setIfInBounds_toArray, List.set_cons_zero, List.set_cons_succ]
                refine ext_take (i := 2) (oi := ?oiv2) (v := ?vv2) ?hiv2 (by kernel_rfl) (by kernel_rfl) (by kernel_rfl) hQ ?hwv2 ?hyv2 ?restv2
                case hiv2 => simp only [List.getElem?_toArray, List.getElem?_cons_zero, List.getElem?_cons_succ]; rfl
                case hwv2 => rfl
                case hyv2 => intro W hW; go_simp; with_reducible rfl
                simp only [Act.put, List.setIfInBounds_toArray, List.set_cons_zero, List.set_cons_succ]
                refine ext_take (i := 3) (oi := ?oiv3) (v := ?vv3) ?hiv3 (by kernel_rfl) (by kernel_rfl) (by kernel_rfl) hQ ?hwv3 ?hyv3 ?restv3
                case hiv3 => simp only [List.getElem?_toArray, List.getElem?_cons_zero, List.getElem?_cons_succ]; rfl
                case hwv3 => rfl
                case hyv3 => intro W hW; go_simp; with_reducible rfl
                simp only [Act.put, List.setIfInBounds_toArray, List.set_cons_zero, List.set_cons_succ]
                refine ext_take (i := 4) (oi := ?oiv4) (v := ?vv4) ?hiv4 (by kernel_rfl) (by kernel_rfl) (by kernel_rfl) hQ ?hwv4 ?hyv4 ?restv4
                case hiv4 => simp only [List.getElem?_toArray, List.getElem?_cons_zero, List.getElem?_cons_succ]; rfl
                case hwv4 => rfl
                case hyv4 => intro W hW; go_simp; with_reducible rfl
                simp only [Act.put, List.setIfInBounds_toArray, List.set_cons_zero, List.set_cons_succ]
                refine ext_take (i := 5) (oi := ?oiv5) (v := ?vv5) ?hiv5 (by kernel_rfl) (by kernel_rfl) (by kernel_rfl) hQ ?hwv5 ?hyv5 ?restv5
                case hiv5 => simp only [List.getElem?_toArray, List.getElem?_cons_zero, List.getElem?_cons_succ]; rfl
                case hwv5 => rfl
                case hyv5 => intro W hW; go_simp; with_reducible rfl
                simp only [Act.put, List.setIfInBounds_toArray, List.set_cons_zero, List.set_cons_succ]
                refine ext_take (i := 6) (oi := ?oiv6) (v := ?vv6) ?hiv6 (by kernel_rfl) (by kernel_rfl) (by kernel_rfl) hQ ?hwv6 ?hyv6 ?restv6
                case hiv6 => simp only [List.getElem?_toArray, List.getElem?_cons_zero, List.getElem?_cons_succ]; rfl
                case hwv6 => rfl
                case hyv6 => intro W hW; go_simp; with_reducible rfl
                simp only [Act.put, List.setIfInBounds_toArray, List.set_cons_zero, List.set_cons_succ]
                refine ext_take (i := 7) (oi := ?oiv7) (v := ?vv7) ?hiv7 (by kernel_rfl) (by kernel_rfl) (by kernel_rfl) hQ ?hwv7 ?hyv7 ?restv7
                case hiv7 => simp only [List.getElem?_toArray, List.getElem?_cons_zero, List.getElem?_cons_succ]; rfl
                case hwv7 => rfl
                case hyv7 => intro W hW; go_simp; with_reducible rfl
                simp only [Act.put, List.setIfInBounds_toArray, List.set_cons_zero, List.set_cons_succ]
                refine ext_take (i := 8) (oi := ?oiv8) (v := ?vv8) ?hiv8 (by kernel_rfl) (by kernel_rfl) (by kernel_rfl) hQ ?hwv8 ?hyv8 ?restv8
                case hiv8 => simp only [List.getElem?_toArray, List.getElem?_cons_zero, List.getElem?_cons_succ]; rfl
                case hwv8 => rfl
                case hyv8 => intro W hW; go_simp; with_reducible rfl
                simp only [Act.put, List.setIfInBounds_toArray, List.set_cons_zero, List.set_cons_succ]
                refine ext_take (i := 9) (oi := ?oiv9) (v := ?vv9) ?hiv9 (by kernel_rfl) (by kernel_rfl) (by kernel_rfl) hQ ?hwv9 ?hyv9 ?restv9
                case hiv9 => simp only [List.getElem?_toArray, List.getElem?_cons_zero, List.getElem?_cons_succ]; rfl
                case hwv9 => rfl
                case hyv9 => intro W hW; go_simp; with_reducible rfl
                simp only [Act.put, List.setIfInBounds_toArray, List.set_cons_zero, List.set_cons_succ]
                refine ext_take (i := 10) (oi := ?oiv10) (v := ?vv10) ?hiv10 (by kernel_rfl) (by kernel_rfl) (by kernel_rfl) hQ ?hwv10 ?hyv10 ?restv10
                case hiv10 => simp only [List.getElem?_toArray, List.getElem?_cons_zero, List.getElem?_cons_succ]; rfl
                case hwv10 => rfl
                case hyv10 => intro W hW; go_simp; with_reducible rfl
                simp only [Act.put, List.setIfInBounds_toArray, List.set_cons_zero, List.set_cons_succ]
                refine ext_take (i := 11) (oi := ?oiv11) (v := ?vv11) ?hiv11 (by kernel_rfl) (by kernel_rfl) (by kernel_rfl) hQ ?hwv11 ?hyv11 ?restv11
                case hiv11 => simp only [List.getElem?_toArray, List.getElem?_cons_zero, List.getElem?_cons_succ]; rfl
                case hwv11 => rfl
                case hyv11 => intro W hW; go_simp; with_reducible rfl
                simp only [Act.put, List.setIfInBounds_toArray, List.set_cons_zero, List.set_cons_succ]
                refine ext_take (i := 12) (oi := ?oiv12) (v := ?vv12) ?hiv12 (by kernel_rfl) (by kernel_rfl) (by kernel_rfl) hQ ?hwv12 ?hyv12 ?restv12
                case hiv12 => simp only [List.getElem?_toArray, List.getElem?_cons_zero, List.getElem?_cons_succ]; rfl
                case hwv12 => rfl
                case hyv12 => intro W hW; go_simp; with_reducible rfl
                simp only [Act.put, List.setIfInBounds_toArray, List.set_cons_zero, List.set_cons_succ]
                refine ext_take (i := 13) (oi := ?oiv13) (v := ?vv13) ?hiv13 (by kernel_rfl) (by kernel_rfl) (by kernel_rfl) hQ ?hwv13 ?hyv13 ?restv13
                case hiv13 => simp only [List.getElem?_toArray, List.getElem?_cons_zero, List.getElem?_cons_succ]; rfl
                case hwv13 => rfl
                case hyv13 => intro W hW; go_simp; with_reducible rfl
                simp only [Act.put, List.setIfInBounds_toArray, List.set_cons_zero, List.set_cons_succ]
                refine ext_take (i := 14) (oi := ?oiv14) (v := ?vv14) ?hiv14 (by kernel_rfl) (by kernel_rfl) (by kernel_rfl) hQ ?hwv14 ?hyv14 ?restv14
                case hiv14 => simp only [List.getElem?_toArray, List.getElem?_cons_zero, List.getElem?_cons_succ]; rfl
                case hwv14 => rfl
                case hyv14 => intro W hW; go_simp; with_reducible rfl
                simp only [Act.put, List.setIfInBounds_toArray, List.set_cons_zero, List.set_cons_succ]
                refine ext_take (i := 15) (oi := ?oiv15) (v := ?vv15) ?hiv15 (by kernel_rfl) (by kernel_rfl) (by kernel_rfl) hQ ?hwv15 ?hyv15 ?restv15
                case hiv15 => simp only [List.getElem?_toArray, List.getElem?_cons_zero, List.getElem?_cons_succ]; rfl
                case hwv15 => rfl
                case hyv15 => intro W hW; go_simp; with_reducible rfl
                simp only [Act.put, List.setIfInBounds_toArray, List.set_cons_zero, List.set_cons_succ]
                refine ext_take (i := 16) (oi := ?oiv16) (v := ?vv16) ?hiv16 (by kernel_rfl) (by kernel_rfl) (by kernel_rfl) hQ ?hwv16 ?hyv16 ?restv16
                case hiv16 => simp only [List.getElem?_toArray, List.getElem?_cons_zero, List.getElem?_cons_succ]; rfl
                case hwv16 => rfl
                case hyv16 => intro W hW; go_simp; with_reducible rfl
                simp only [Act.put, List.setIfInBounds_toArray, List.set_cons_zero, List.set_cons_succ]
                refine ext_take (i := 17) (oi := ?oiv17) (v := ?vv17) ?hiv17 (by kernel_rfl) (by kernel_rfl) (by kernel_rfl) hQ ?hwv17 ?hyv17 ?restv17
                case hiv17 => simp only [List.getElem?_toArray, List.getElem?_cons_zero, List.getElem?_cons_succ]; rfl
                case hwv17 => rfl
                case hyv17 => intro W hW; go_simp; with_reducible rfl
                simp only [Act.put, List.setIfInBounds_toArray, List.set_cons_zero, List.set_cons_succ]
                refine ext_take (i := 18) (oi := ?oiv18) (v := ?vv18) ?hiv18 (by kernel_rfl) (by kernel_rfl) (by kernel_rfl) hQ ?hwv18 ?hyv18 ?restv18
                case hiv18 => simp only [List.getElem?_toArray, List.getElem?_cons_zero, List.getElem?_cons_succ]; rfl
                case hwv18 => rfl
                case hyv18 => intro W hW; go_simp; with_reducible rfl
                simp only [Act.put, List.setIfInBounds_toArray, List.set_cons_zero, List.set_cons_succ]
                refine ext_step (i := 19) (oi := ?oiv19) (by kernel_rfl) ?hiv19 ?hwv19 (fun K hK => ?_)
                case hiv19 => simp only [List.getElem?_toArray, List.getElem?_cons_zero, List.getElem?_cons_succ]; rfl
                case hwv19 => rfl
                go_simp
                refine ((by have h := same11_any A14 2000 c14 P2 5000 4096 16384 16 _ 2000 2000 P2 5000 4096 16384 16 y39 RK RM (by omega); rw [sm_most] at h; exact h : Calls Try.prog 22 #[scr A14 2000 c14 5000 4096 16384 16, scr (some ⟨ym.heap.size, 0, none⟩) 2000 2000 5000 4096 16384 16] y39 fun e w' => e = .returned (.bool true) ∧ Below y39.heap.size y39 w')).mono ?_; rintro e y40 ⟨rfl, b_⟩; replace RO := RO.mv b_; replace hB := hB.trans (b_.mono hB.size); refine hK _ _ b_ ?_; replace XhO0 : ∀ W, Ext y40 W → W.cell? ⟨GO, 0, none⟩ = some (.slice A34 0 c34) := fun W h_ => XhO0 W (Ext.trans b_ h_); replace XhO1 : ∀ W, Ext y40 W → W.cell? ⟨GO, 1, none⟩ = some (.int .i64 1) := fun W h_ => XhO1 W (Ext.trans b_ h_); replace XhO2 : ∀ W, Ext y40 W → W.cell? ⟨GO, 2, none⟩ = some (.int .i64 0) := fun W h_ => XhO2 W (Ext.trans b_ h_); replace XhO3 : ∀ W, Ext y40 W → W.cell? ⟨GO, 3, none⟩ = some (.int .i64 0) := fun W h_ => XhO3 W (Ext.trans b_ h_); replace XhO4 : ∀ W, Ext y40 W → W.cell? ⟨GO, 4, none⟩ = some (.int .i64 1) := fun W h_ => XhO4 W (Ext.trans b_ h_); clear b_
                try simp only [Act.put, List.setIfInBounds_toArray, List.set_cons_zero, List.set_cons_succ]
                refine ext_take (i := 20) (oi := ?oiv20) (v := ?vv20) ?hiv20 (by kernel_rfl) (by kernel_rfl) (by kernel_rfl) hQ ?hwv20 ?hyv20 ?restv20
                case hiv20 => simp only [List.getElem?_toArray, List.getElem?_cons_zero, List.getElem?_cons_succ]; rfl
                case hwv20 => rfl
                case hyv20 => intro W hW; go_simp; with_reducible rfl
                simp only [Act.put, List.setIfInBounds_toArray, List.set_cons_zero, List.set_cons_succ]
                refine ext_take (i := 21) (oi := ?oiv21) (v := ?vv21) ?hiv21 (by kernel_rfl) (by kernel_rfl) (by kernel_rfl) hQ ?hwv21 ?hyv21 ?restv21
                case hiv21 => simp only [List.getElem?_toArray, List.getElem?_cons_zero, List.getElem?_cons_succ]; rfl
                case hwv21 => rfl
                case hyv21 => intro W hW; go_simp; with_reducible rfl
                simp only [Act.put, List.setIfInBounds_toArray, List.set_cons_zero, List.set_cons_succ]
                refine ext_take (i := 22) (oi := ?oiv22) (v := ?vv22) ?hiv22 (by kernel_rfl) (by kernel_rfl) (by kernel_rfl) hQ ?hwv22 ?hyv22 ?restv22
                case hiv22 => simp only [List.getElem?_toArray, List.getElem?_cons_zero, List.getElem?_cons_succ]; rfl
                case hwv22 => rfl
                case hyv22 => intro W hW; go_simp; with_reducible rfl
                simp only [Act.put, List.setIfInBounds_toArray, List.set_cons_zero, List.set_cons_succ]
                refine ext_take (i := 23) (oi := ?oiv23) (v := ?vv23) ?hiv23 (by kernel_rfl) (by kernel_rfl) (by kernel_rfl) hQ ?hwv23 ?hyv23 ?restv23
                case hiv23 => simp only [List.getElem?_toArray, List.getElem?_cons_zero, List.getElem?_cons_succ]; rfl
                case hwv23 => rfl
                case hyv23 => intro W hW; go_simp; with_reducible rfl
                simp only [Act.put, List.setIfInBounds_toArray, List.set_cons_zero, List.set_cons_succ]
                refine ext_take (i := 24) (oi := ?oiv24) (v := ?vv24) ?hiv24 (by kernel_rfl) (by kernel_rfl) (by kernel_rfl) hQ ?hwv24 ?hyv24 ?restv24
                case hiv24 => simp only [List.getElem?_toArray, List.getElem?_cons_zero, List.getElem?_cons_succ]; rfl
                case hwv24 => rfl
                case hyv24 => intro W hW; go_simp; with_reducible rfl
                simp only [Act.put, List.setIfInBounds_toArray, List.set_cons_zero, List.set_cons_succ]
                refine ext_take (i := 25) (oi := ?oiv25) (v := ?vv25) ?hiv25 (by kernel_rfl) (by kernel_rfl) (by kernel_rfl) hQ ?hwv25 ?hyv25 ?restv25
                case hiv25 => simp only [List.getElem?_toArray, List.getElem?_cons_zero, List.getElem?_cons_succ]; rfl
                case hwv25 => rfl
                case hyv25 => intro W hW; go_simp; with_reducible rfl
                simp only [Act.put, List.setIfInBounds_toArray, List.set_cons_zero, List.set_cons_succ]
                refine ext_take (i := 26) (oi := ?oiv26) (v := ?vv26) ?hiv26 (by kernel_rfl) (by kernel_rfl) (by kernel_rfl) hQ ?hwv26 ?hyv26 ?restv26
                case hiv26 => simp only [List.getElem?_toArray, List.getElem?_cons_zero, List.getElem?_cons_succ]; rfl
                case hwv26 => rfl
                case hyv26 => intro W hW; go_simp; with_reducible rfl
                simp only [Act.put, List.setIfInBounds_toArray, List.set_cons_zero, List.set_cons_succ]
                refine ext_step (i := 27) (oi := ?oiv27) (by kernel_rfl) ?hiv27 ?hwv27 (fun K hK => ?_)
                case hiv27 => simp only [List.getElem?_toArray, List.getElem?_cons_zero, List.getElem?_cons_succ]; rfl
                case hwv27 => rfl
                go_simp
                refine (least11_any y40).mono ?_; rintro e y41 ⟨rfl, b_⟩; replace RO := RO.mv b_; replace hB := hB.trans (b_.mono hB.size); refine hK _ _ b_ ?_; clear b_
                try simp only [Act.put, List.setIfInBounds_toArray, List.set_cons_zero, List.set_cons_succ]
                refine ext_step (i := 28) (oi := ?oiv28) (by kernel_rfl) ?hiv28 ?hwv28 (fun K hK => ?_)
                case hiv28 => simp only [List.getElem?_toArray, List.getElem?_cons_zero, List.getElem?_cons_succ]; rfl
                case hwv28 => rfl
                go_simp
                refine ((by have h := same11_any A34 0 c34 [] 1 0 0 1 none 0 0 [] 1 0 0 1 y41 RO Reads.none_ (by omega); rw [show smB 1 0 0 1 [] 1 0 0 1 [] = true from by decide] at h; exact h : Calls Try.prog 22 #[scr A34 0 c34 1 0 0 1, scr none 0 0 1 0 0 1] y41 fun e w' => e = .returned (.bool true) ∧ Below y41.heap.size y41 w')).mono ?_; rintro e y42 ⟨rfl, b_⟩; replace hB := hB.trans (b_.mono hB.size); refine hK _ _ b_ ?_; clear b_
                try simp only [Act.put, List.setIfInBounds_toArray, List.set_cons_zero, List.set_cons_succ]
                refine ext_take (i := 29) (oi := ?oiv29) (v := ?vv29) ?hiv29 (by kernel_rfl) (by kernel_rfl) (by kernel_rfl) hQ ?hwv29 ?hyv29 ?restv29
                case hiv29 => simp only [List.getElem?_toArray, List.getElem?_cons_zero, List.getElem?_cons_succ]; rfl
                case hwv29 => rfl
                case hyv29 => intro W hW; go_simp; with_reducible rfl
                simp only [Act.put, List.setIfInBounds_toArray, List.set_cons_zero, List.set_cons_succ]
                refine ext_take (i := 30) (oi := ?oiv30) (v := ?vv30) ?hiv30 (by kernel_rfl) (by kernel_rfl) (by kernel_rfl) hQ ?hwv30 ?hyv30 ?restv30
                case hiv30 => simp only [List.getElem?_toArray, List.getElem?_cons_zero, List.getElem?_cons_succ]; rfl
                case hwv30 => rfl
                case hyv30 => intro W hW; go_simp; with_reducible rfl
                simp only [Act.put, List.setIfInBounds_toArray, List.set_cons_zero, List.set_cons_succ]
                refine ext_step (i := 31) (oi := ?oiv31) (by kernel_rfl) ?hiv31 ?hwv31 (fun K hK => ?_)
                case hiv31 => simp only [List.getElem?_toArray, List.getElem?_cons_zero, List.getElem?_cons_succ]; rfl
                case hwv31 => rfl
                go_simp
                refine (alive11_any y42).mono ?_; rintro e y43 ⟨rfl, b_⟩; replace hB := hB.trans (b_.mono hB.size); refine hK _ _ b_ ?_; clear b_
                try simp only [Act.put, List.setIfInBounds_toArray, List.set_cons_zero, List.set_cons_succ]
                refine ext_take (i := 32) (oi := ?oiv32) (v := ?vv32) ?hiv32 (by kernel_rfl) (by kernel_rfl) (by kernel_rfl) hQ ?hwv32 ?hyv32 ?restv32
                case hiv32 => simp only [List.getElem?_toArray, List.getElem?_cons_zero, List.getElem?_cons_succ]; rfl
                case hwv32 => rfl
                case hyv32 => intro W hW; go_simp; with_reducible rfl
                simp only [Act.put, List.setIfInBounds_toArray, List.set_cons_zero, List.set_cons_succ]
                refine ext_take (i := 33) (oi := ?oiv33) (v := ?vv33) ?hiv33 (by kernel_rfl) (by kernel_rfl) (by kernel_rfl) hQ ?hwv33 ?hyv33 ?restv33
                case hiv33 => simp only [List.getElem?_toArray, List.getElem?_cons_zero, List.getElem?_cons_succ]; rfl
                case hwv33 => rfl
                case hyv33 => intro W hW; go_simp; with_reducible rfl
                simp only [Act.put, List.setIfInBounds_toArray, List.set_cons_zero]
                refine wpAnyH_done (by kernel_rfl) ?_ _
                simp only [NoP]
                go_wp2_with fail
                go_ret
                exact ⟨rfl, hB⟩

end Go.Proofs.Ytldaijkcmnnjpaa
