/- The walk of TablesNames. No conditions. -/
import Derived.Test.YtldaijkcmnnjpaaTabNm
import Derived.BigQuiet
namespace Go.Proofs.Ytldaijkcmnnjpaa
open Go.RowKit Wire
set_option linter.unusedVariables false

set_option maxRecDepth 100000 in
set_option maxHeartbeats 8000000 in
theorem tablesNames_walk (w : World) :
    Calls Try.prog 5 #[] w fun e w' => e = .returned (.bool true) ∧ Below w.heap.size w w' := by
  go_enter Try.func5, Try.ntmps5
  have hB1 : Below w.heap.size w (w.alloc (.cells #[.int .i64 0, .int .u64 18446744073709551615] 57)) := (Below.refl w.heap.size w).alloc (Nat.le_refl _) (.cells #[.int .i64 0, .int .u64 18446744073709551615] 57)
  have hN : RdN (w.alloc (.cells #[.int .i64 0, .int .u64 18446744073709551615] 57)) (some ⟨w.heap.size, 0, none⟩) 1 [(0, 18446744073709551615)] := rdN_new w [(0, 18446744073709551615)] (by intro p hp; simp at hp; subst hp; exact ⟨by omega, by omega⟩)
  obtain ⟨hT, hB2⟩ := rdX_tab (w := (w.alloc (.cells #[.int .i64 0, .int .u64 18446744073709551615] 57))) (w1 := (((((((w.alloc (.cells #[.int .i64 0, .int .u64 18446744073709551615] 57)).alloc (.cells #[.int .i64 1, .int .u64 0] 57)).alloc (.cells #[.int .i64 (-1), .int .u64 0] 57)).alloc (.cells #[.int .i64 0, .int .u64 0, .int .i64 0, .int .u64 1] 57)).alloc (.cells #[.int .i64 0, .int .u64 0, .int .i64 3, .int .u64 1, .int .i64 2, .int .u64 0] 57)).alloc (.cells #[.int .i64 0, .int .u64 0, .int .i64 6, .int .u64 1] 57)).alloc (.cells #[.int .i64 0, .int .u64 0, .int .i64 2, .int .u64 0] 57))) (t := 57) (t2 := 58) (F := rnC) (sz := 2) rnC_len badT (by decide) rfl (cs := #[.slice none 0 0, .slice (some ⟨w.heap.size + 1, 0, none⟩) 1 1, .slice (some ⟨w.heap.size + 1 + 1, 0, none⟩) 1 1, .slice (some ⟨w.heap.size + 1 + 1 + 1, 0, none⟩) 2 2, .slice (some ⟨w.heap.size + 1 + 1 + 1 + 1, 0, none⟩) 3 3, .slice (some ⟨w.heap.size + 1 + 1 + 1 + 1 + 1, 0, none⟩) 2 2, .slice (some ⟨w.heap.size + 1 + 1 + 1 + 1 + 1 + 1, 0, none⟩) 2 2]) (by rw [alloc_size]; rfl)
  replace hN := hN.mv hB2
  have hB0 := hB1.trans (hB2.mono hB1.size)
  clear hB1 hB2
  go_wp2_with fail
  generalize ((((((((w.alloc (.cells #[.int .i64 0, .int .u64 18446744073709551615] 57)).alloc (.cells #[.int .i64 1, .int .u64 0] 57)).alloc (.cells #[.int .i64 (-1), .int .u64 0] 57)).alloc (.cells #[.int .i64 0, .int .u64 0, .int .i64 0, .int .u64 1] 57)).alloc (.cells #[.int .i64 0, .int .u64 0, .int .i64 3, .int .u64 1, .int .i64 2, .int .u64 0] 57)).alloc (.cells #[.int .i64 0, .int .u64 0, .int .i64 6, .int .u64 1] 57)).alloc (.cells #[.int .i64 0, .int .u64 0, .int .i64 2, .int .u64 0] 57)).alloc (.cells #[.slice none 0 0, .slice (some ⟨w.heap.size + 1, 0, none⟩) 1 1, .slice (some ⟨w.heap.size + 1 + 1, 0, none⟩) 1 1, .slice (some ⟨w.heap.size + 1 + 1 + 1, 0, none⟩) 2 2, .slice (some ⟨w.heap.size + 1 + 1 + 1 + 1, 0, none⟩) 3 3, .slice (some ⟨w.heap.size + 1 + 1 + 1 + 1 + 1, 0, none⟩) 2 2, .slice (some ⟨w.heap.size + 1 + 1 + 1 + 1 + 1 + 1, 0, none⟩) 2 2] 58)) = w3 at *
  rw [show (((((((w.alloc (.cells #[.int .i64 0, .int .u64 18446744073709551615] 57)).alloc (.cells #[.int .i64 1, .int .u64 0] 57)).alloc (.cells #[.int .i64 (-1), .int .u64 0] 57)).alloc (.cells #[.int .i64 0, .int .u64 0, .int .i64 0, .int .u64 1] 57)).alloc (.cells #[.int .i64 0, .int .u64 0, .int .i64 3, .int .u64 1, .int .i64 2, .int .u64 0] 57)).alloc (.cells #[.int .i64 0, .int .u64 0, .int .i64 6, .int .u64 1] 57)).alloc (.cells #[.int .i64 0, .int .u64 0, .int .i64 2, .int .u64 0] 57)).heap.size = w.heap.size + 1 + 1 + 1 + 1 + 1 + 1 + 1 from by simp] at hT
  generalize hPT_ : w.heap.size + 1 + 1 + 1 + 1 + 1 + 1 + 1 = PT at *
  clear hPT_
  have HT := Lib.hid hT
  have HN := Lib.hid hN
  clear hT hN
  go_loopw [3] (fun i wr => ∃ j : Nat, j ≤ 7 ∧ i = .int .i64 (j : Int) ∧ Below w3.heap.size w3 wr) (fun i _ => 7 - (intOf i).toNat)
  case atStart => exact ⟨0, by omega, rfl, Below.refl _ _⟩
  case round =>
    obtain ⟨j, hj, rfl, hC⟩ := hrel
    by_cases hlt : j < 7
    · obtain ⟨A, c, L, hL, hcell, hcc, R0⟩ := (HT.out.mv hC).at_ hlt
      obtain ⟨hfit, hck⟩ := badT_get (List.mem_of_getElem? hL)
      have R : RdN wr A L.length L := ⟨R0, hfit⟩
      clear R0 hL hfit
      have hB := hC
      have plt : PT < wr.heap.size := World.block_lt_of_cell? wr ⟨PT, j, none⟩ hcell
      go_wp2_with fail
      refine (bad_at _ R hcc hck).mono ?_
      rintro e x1 ⟨rfl, b_⟩
      replace hcell := (b_.cell (p := ⟨PT, j, none⟩) plt).trans hcell
      replace plt := Nat.lt_of_lt_of_le plt b_.size
      replace R := R.mv b_
      replace hB := hB.trans (b_.mono hB.size)
      clear b_
      go_wp2_with fail
      refine (bad_list _ R hcc hck).mono ?_
      rintro e x2 ⟨⟨A4, c4, rfl⟩, b_⟩
      replace hcell := (b_.cell (p := ⟨PT, j, none⟩) plt).trans hcell
      replace plt := Nat.lt_of_lt_of_le plt b_.size
      replace R := R.mv b_
      replace hB := hB.trans (b_.mono hB.size)
      clear b_
      go_wp2_with fail
      refine (bad_enc _ R hcc hck).mono ?_
      rintro e x3 ⟨⟨A5, c5, rfl⟩, b_⟩
      replace hcell := (b_.cell (p := ⟨PT, j, none⟩) plt).trans hcell
      replace plt := Nat.lt_of_lt_of_le plt b_.size
      replace R := R.mv b_
      replace hB := hB.trans (b_.mono hB.size)
      clear b_
      go_wp2_with fail
      refine (bad_chk _ R hcc hck).mono ?_
      rintro e x4 ⟨rfl, b_⟩
      replace hcell := (b_.cell (p := ⟨PT, j, none⟩) plt).trans hcell
      replace plt := Nat.lt_of_lt_of_le plt b_.size
      replace R := R.mv b_
      replace hB := hB.trans (b_.mono hB.size)
      clear b_
      go_wp2_with fail
      refine (bad_chk2 _ R hcc hck).mono ?_
      rintro e x5 ⟨rfl, b_⟩
      replace hcell := (b_.cell (p := ⟨PT, j, none⟩) plt).trans hcell
      replace plt := Nat.lt_of_lt_of_le plt b_.size
      replace R := R.mv b_
      replace hB := hB.trans (b_.mono hB.size)
      clear b_
      go_wp2_with fail
      go_roundw
      case rel => exact ⟨j + 1, by omega, by go_num, hB⟩
      case measure => simp [intOf]; omega
    · replace hj : j = 7 := by omega
      subst hj
      have N0 := HN.out.mv hC
      have hB := hB0.trans (hC.mono hB0.size)
      clear HT HN hC hB0
      have hnil : ∀ W, RdN W none 0 [] := fun W => ⟨Reads.none_, by simp⟩
      go_wp2_with fail
      have HN := at_any none 0 0 [] 0 0 _ (hnil wr) (by omega)
      rw [show atV [] 0 0 = 0 from by decide +kernel] at HN
      rw [show atE [] 0 0 = 2 from by decide +kernel] at HN
      refine (HN).mono ?_
      rintro e y1 ⟨rfl, b_⟩
      replace N0 := N0.mv b_
      replace hB := hB.trans (b_.mono hB.size)
      clear b_
      clear HN
      go_wp2_with fail
      have HN := at_any (some ⟨w.heap.size, 0, none⟩) 1 1 [(0, 18446744073709551615)] 6 6 _ N0 (by omega)
      rw [show atV [(0, 18446744073709551615)] 6 6 = 0 from by decide +kernel] at HN
      rw [show atE [(0, 18446744073709551615)] 6 6 = 2 from by decide +kernel] at HN
      refine (HN).mono ?_
      rintro e y2 ⟨rfl, b_⟩
      replace N0 := N0.mv b_
      replace hB := hB.trans (b_.mono hB.size)
      clear b_
      clear HN
      go_wp2_with fail
      have HN := at_any (some ⟨w.heap.size, 0, none⟩) 1 1 [(0, 18446744073709551615)] 6 (-1) _ N0 (by omega)
      rw [show atV [(0, 18446744073709551615)] 6 (-1) = 0 from by decide +kernel] at HN
      rw [show atE [(0, 18446744073709551615)] 6 (-1) = 2 from by decide +kernel] at HN
      refine (HN).mono ?_
      rintro e y3 ⟨rfl, b_⟩
      replace N0 := N0.mv b_
      replace hB := hB.trans (b_.mono hB.size)
      clear b_
      clear HN
      go_wp2_with fail
      have HN := at_any (some ⟨w.heap.size, 0, none⟩) 1 1 [(0, 18446744073709551615)] 200 199 _ N0 (by omega)
      rw [show atV [(0, 18446744073709551615)] 200 199 = 18446744073709551615 from by decide +kernel] at HN
      rw [show atE [(0, 18446744073709551615)] 200 199 = 0 from by decide +kernel] at HN
      refine (HN).mono ?_
      rintro e y4 ⟨rfl, b_⟩
      replace N0 := N0.mv b_
      replace hB := hB.trans (b_.mono hB.size)
      clear b_
      clear HN
      go_wp2_with fail
      have HN := list_any (some ⟨w.heap.size, 0, none⟩) 1 1 [(0, 18446744073709551615)] 201 _ N0 (by omega)
      rw [show lsL [(0, 18446744073709551615)] 201 = [] from by decide +kernel] at HN
      rw [show ckT [(0, 18446744073709551615)] 201 = 2 from by decide +kernel] at HN
      refine (HN).mono ?_
      rintro e y5 ⟨A24, c24, rfl, o24, b_⟩
      clear o24
      replace N0 := N0.mv b_
      replace hB := hB.trans (b_.mono hB.size)
      clear b_
      clear HN
      clear N0
      go_wp2_with fail
      have U1 : RdU y5 none 0 [] := ⟨Reads.none_, by simp⟩
      have HN := make_any none 0 0 [] _ U1 (by omega)
      rw [show mkL [] = [] from by decide +kernel] at HN
      rw [show mkE [] = 2 from by decide +kernel] at HN
      refine (HN).mono ?_
      rintro e y6 ⟨A25, c25, rfl, o25, b_⟩
      clear o25 U1
      replace hB := hB.trans (b_.mono hB.size)
      clear b_
      clear HN
      go_wp2_with (refine wpList_mk1 _ rfl (.const (.int .i64 201)) (.const (.int .i64 201)) rfl slU rfl 201 (by rfl) (by rfl) rfl rfl (by omega) ?_; intro y7 o2 b_)
      have U2 : RdU y7 _ 201 Z201 := rdU_zeros o2
      clear o2
      replace hB := hB.trans (b_.mono hB.size)
      clear b_
      have HN := make_any _ 201 201 Z201 _ U2 (by omega)
      rw [mk_201.1, mk_201.2] at HN
      refine (HN).mono ?_
      rintro e y8 ⟨A_201, c_201, rfl, o_201, b_⟩
      clear o_201 U2
      replace hB := hB.trans (b_.mono hB.size)
      clear b_
      clear HN
      go_wp2_with fail
      have HN := encode8_any none 0 0 [] 0 _ (hnil y8) (by omega)
      rw [show ecL [] 0 = [] from by decide +kernel] at HN
      rw [show ckT [] 0 = 2 from by decide +kernel] at HN
      refine (HN).mono ?_
      rintro e y9 ⟨A28, c28, rfl, o28, b_⟩
      clear o28
      replace hB := hB.trans (b_.mono hB.size)
      clear b_
      clear HN
      go_wp2_with fail
      have HD := decode8_any none 0 0 [] 1 0 y9 Reads.none_ (by omega) (by omega) (by omega)
      unfold DcP at HD
      rw [show dcC none 0 0 [] 1 0 = cur none 0 0 0 from by rw [dcC, if_neg (by decide)], show dcL [] 1 0 = [] from by decide, show dcE [] 1 0 = 8 from by decide] at HD
      unfold cur at HD
      refine (HD).mono ?_
      rintro e y10 ⟨A29, c29, rfl, o29, b_⟩
      clear o29
      replace hB := hB.trans (b_.mono hB.size)
      clear b_
      clear HD
      have b_ := (Below.refl y10.heap.size y10).alloc (Nat.le_refl _) (.cells #[.slice none 0 0, .int .i64 0] 70)
      replace hB := hB.trans (b_.mono hB.size)
      clear b_
      go_wp2_with (refine wpList_mk1 _ rfl (.const (.int .i64 200)) (.const (.int .i64 200)) rfl slU rfl 200 (by rfl) (by rfl) rfl rfl (by omega) ?_; intro y11 o2 b_)
      have U2 : RdU y11 _ 200 Z200 := rdU_zeros o2
      clear o2
      rw [alloc_size] at U2
      replace hB := hB.trans (b_.mono hB.size)
      clear b_
      have HN := make_any _ 200 200 Z200 _ U2 (by omega)
      rw [mk_200.1, mk_200.2] at HN
      refine (HN).mono ?_
      rintro e y12 ⟨A_200, c_200, rfl, o_200, b_⟩
      clear o_200 U2
      replace hB := hB.trans (b_.mono hB.size)
      clear b_
      clear HN
      go_wp2_with fail
      have RB : Rb y12 none 0 [] := Reads.none_
      refine (decodes_yes 2 0 _ 0 0 [] _ RB (by omega) (by omega) (by decide +kernel)).mono ?_
      rintro e y13 ⟨rfl, b_⟩
      replace hB := hB.trans (b_.mono hB.size)
      clear b_
      clear RB
      go_wp2_with fail
      have RB : Rb (y13.alloc (.cells #[.int .u8 1, .int .u8 0, .int .u8 0] 5)) (some ⟨y13.heap.size, 0, none⟩) 3 [1, 0, 0] := reads_bytes y13 [1, 0, 0] 5
      have b_ := (Below.refl y13.heap.size y13).alloc (Nat.le_refl _) (.cells #[.int .u8 1, .int .u8 0, .int .u8 0] 5)
      replace hB := hB.trans (b_.mono hB.size)
      clear b_
      refine (decodes_yes 2 201 _ 3 3 [1, 0, 0] _ RB (by omega) (by omega) (by decide +kernel)).mono ?_
      rintro e y14 ⟨rfl, b_⟩
      replace hB := hB.trans (b_.mono hB.size)
      clear b_
      clear RB
      go_wp2_with fail
      have RB : Rb y14 none 0 [] := Reads.none_
      refine (decodes_yes 24 6 _ 0 0 [] _ RB (by omega) (by omega) (by decide +kernel)).mono ?_
      rintro e y15 ⟨rfl, b_⟩
      replace hB := hB.trans (b_.mono hB.size)
      clear b_
      clear RB
      go_wp2_with fail
      have RB : Rb (y15.alloc (.cells #[.int .u8 7] 5)) (some ⟨y15.heap.size, 0, none⟩) 1 [7] := reads_bytes y15 [7] 5
      have b_ := (Below.refl y15.heap.size y15).alloc (Nat.le_refl _) (.cells #[.int .u8 7] 5)
      replace hB := hB.trans (b_.mono hB.size)
      clear b_
      refine (decodes_yes 4 6 _ 1 1 [7] _ RB (by omega) (by omega) (by decide +kernel)).mono ?_
      rintro e y16 ⟨rfl, b_⟩
      replace hB := hB.trans (b_.mono hB.size)
      clear b_
      clear RB
      go_wp2_with fail
      have RB : Rb (y16.alloc (.cells #[.int .u8 0] 5)) (some ⟨y16.heap.size, 0, none⟩) 1 [0] := reads_bytes y16 [0] 5
      have b_ := (Below.refl y16.heap.size y16).alloc (Nat.le_refl _) (.cells #[.int .u8 0] 5)
      replace hB := hB.trans (b_.mono hB.size)
      clear b_
      refine (decodes_yes 12 6 _ 1 1 [0] _ RB (by omega) (by omega) (by decide +kernel)).mono ?_
      rintro e y17 ⟨rfl, b_⟩
      replace hB := hB.trans (b_.mono hB.size)
      clear b_
      clear RB
      go_wp2_with fail
      have RB : Rb (y17.alloc (.cells #[.int .u8 1, .int .u8 0] 5)) (some ⟨y17.heap.size, 0, none⟩) 2 [1, 0] := reads_bytes y17 [1, 0] 5
      have b_ := (Below.refl y17.heap.size y17).alloc (Nat.le_refl _) (.cells #[.int .u8 1, .int .u8 0] 5)
      replace hB := hB.trans (b_.mono hB.size)
      clear b_
      refine (decodes_yes 24 6 _ 2 2 [1, 0] _ RB (by omega) (by omega) (by decide +kernel)).mono ?_
      rintro e y18 ⟨rfl, b_⟩
      replace hB := hB.trans (b_.mono hB.size)
      clear b_
      clear RB
      go_wp2_with fail
      have RB : Rb (y18.alloc (.cells #[.int .u8 1, .int .u8 1, .int .u8 0] 5)) (some ⟨y18.heap.size, 0, none⟩) 3 [1, 1, 0] := reads_bytes y18 [1, 1, 0] 5
      have b_ := (Below.refl y18.heap.size y18).alloc (Nat.le_refl _) (.cells #[.int .u8 1, .int .u8 1, .int .u8 0] 5)
      replace hB := hB.trans (b_.mono hB.size)
      clear b_
      refine (decodes_yes 12 6 _ 3 3 [1, 1, 0] _ RB (by omega) (by omega) (by decide +kernel)).mono ?_
      rintro e y19 ⟨rfl, b_⟩
      replace hB := hB.trans (b_.mono hB.size)
      clear b_
      clear RB
      go_wp2_with fail
      have RB : Rb (y19.alloc (.cells #[.int .u8 2, .int .u8 0, .int .u8 0, .int .u8 0, .int .u8 1] 5)) (some ⟨y19.heap.size, 0, none⟩) 5 [2, 0, 0, 0, 1] := reads_bytes y19 [2, 0, 0, 0, 1] 5
      have b_ := (Below.refl y19.heap.size y19).alloc (Nat.le_refl _) (.cells #[.int .u8 2, .int .u8 0, .int .u8 0, .int .u8 0, .int .u8 1] 5)
      replace hB := hB.trans (b_.mono hB.size)
      clear b_
      refine (decodes_yes 12 6 _ 5 5 [2, 0, 0, 0, 1] _ RB (by omega) (by omega) (by decide +kernel)).mono ?_
      rintro e y20 ⟨rfl, b_⟩
      replace hB := hB.trans (b_.mono hB.size)
      clear b_
      clear RB
      go_wp2_with fail
      have RB : Rb (y20.alloc (.cells #[.int .u8 2, .int .u8 0, .int .u8 0, .int .u8 6, .int .u8 1] 5)) (some ⟨y20.heap.size, 0, none⟩) 5 [2, 0, 0, 6, 1] := reads_bytes y20 [2, 0, 0, 6, 1] 5
      have b_ := (Below.refl y20.heap.size y20).alloc (Nat.le_refl _) (.cells #[.int .u8 2, .int .u8 0, .int .u8 0, .int .u8 6, .int .u8 1] 5)
      replace hB := hB.trans (b_.mono hB.size)
      clear b_
      refine (decodes_yes 12 6 _ 5 5 [2, 0, 0, 6, 1] _ RB (by omega) (by omega) (by decide +kernel)).mono ?_
      rintro e y21 ⟨rfl, b_⟩
      replace hB := hB.trans (b_.mono hB.size)
      clear b_
      clear RB
      go_wp2_with fail
      have RB : Rb (y21.alloc (.cells #[.int .u8 2, .int .u8 0, .int .u8 0, .int .u8 1, .int .u8 0] 5)) (some ⟨y21.heap.size, 0, none⟩) 5 [2, 0, 0, 1, 0] := reads_bytes y21 [2, 0, 0, 1, 0] 5
      have b_ := (Below.refl y21.heap.size y21).alloc (Nat.le_refl _) (.cells #[.int .u8 2, .int .u8 0, .int .u8 0, .int .u8 1, .int .u8 0] 5)
      replace hB := hB.trans (b_.mono hB.size)
      clear b_
      refine (decodes_yes 12 6 _ 5 5 [2, 0, 0, 1, 0] _ RB (by omega) (by omega) (by decide +kernel)).mono ?_
      rintro e y22 ⟨rfl, b_⟩
      replace hB := hB.trans (b_.mono hB.size)
      clear b_
      clear RB
      go_wp2_with fail
      have RB : Rb (y22.alloc (.cells #[.int .u8 128, .int .u8 0] 5)) (some ⟨y22.heap.size, 0, none⟩) 2 [128, 0] := reads_bytes y22 [128, 0] 5
      have b_ := (Below.refl y22.heap.size y22).alloc (Nat.le_refl _) (.cells #[.int .u8 128, .int .u8 0] 5)
      replace hB := hB.trans (b_.mono hB.size)
      clear b_
      refine (decodes_yes 12 6 _ 2 2 [128, 0] _ RB (by omega) (by omega) (by decide +kernel)).mono ?_
      rintro e y23 ⟨rfl, b_⟩
      replace hB := hB.trans (b_.mono hB.size)
      clear b_
      clear RB
      go_wp2_with fail
      have RB : Rb (y23.alloc (.cells #[.int .u8 2, .int .u8 0, .int .u8 0, .int .u8 9] 5)) (some ⟨y23.heap.size, 0, none⟩) 4 [2, 0, 0, 9] := reads_bytes y23 [2, 0, 0, 9] 5
      have b_ := (Below.refl y23.heap.size y23).alloc (Nat.le_refl _) (.cells #[.int .u8 2, .int .u8 0, .int .u8 0, .int .u8 9] 5)
      replace hB := hB.trans (b_.mono hB.size)
      clear b_
      refine (decodes_yes 24 6 _ 4 4 [2, 0, 0, 9] _ RB (by omega) (by omega) (by decide +kernel)).mono ?_
      rintro e y24 ⟨rfl, b_⟩
      replace hB := hB.trans (b_.mono hB.size)
      clear b_
      clear RB
      go_wp2_with fail
      have RB : Rb (y24.alloc (.cells #[.int .u8 2, .int .u8 0, .int .u8 0, .int .u8 255, .int .u8 255, .int .u8 255, .int .u8 255, .int .u8 255, .int .u8 255, .int .u8 255, .int .u8 255, .int .u8 255, .int .u8 1, .int .u8 5] 5)) (some ⟨y24.heap.size, 0, none⟩) 14 [2, 0, 0, 255, 255, 255, 255, 255, 255, 255, 255, 255, 1, 5] := reads_bytes y24 [2, 0, 0, 255, 255, 255, 255, 255, 255, 255, 255, 255, 1, 5] 5
      have b_ := (Below.refl y24.heap.size y24).alloc (Nat.le_refl _) (.cells #[.int .u8 2, .int .u8 0, .int .u8 0, .int .u8 255, .int .u8 255, .int .u8 255, .int .u8 255, .int .u8 255, .int .u8 255, .int .u8 255, .int .u8 255, .int .u8 255, .int .u8 1, .int .u8 5] 5)
      replace hB := hB.trans (b_.mono hB.size)
      clear b_
      refine (decodes_yes 12 6 _ 14 14 [2, 0, 0, 255, 255, 255, 255, 255, 255, 255, 255, 255, 1, 5] _ RB (by omega) (by omega) (by decide +kernel)).mono ?_
      rintro e y25 ⟨rfl, b_⟩
      replace hB := hB.trans (b_.mono hB.size)
      clear b_
      clear RB
      go_wp2_with fail
      have RB : Rb (y25.alloc (.cells #[.int .u8 3, .int .u8 0, .int .u8 0, .int .u8 129, .int .u8 2, .int .u8 1, .int .u8 255, .int .u8 1, .int .u8 2] 5)) (some ⟨y25.heap.size, 0, none⟩) 9 [3, 0, 0, 129, 2, 1, 255, 1, 2] := reads_bytes y25 [3, 0, 0, 129, 2, 1, 255, 1, 2] 5
      have b_ := (Below.refl y25.heap.size y25).alloc (Nat.le_refl _) (.cells #[.int .u8 3, .int .u8 0, .int .u8 0, .int .u8 129, .int .u8 2, .int .u8 1, .int .u8 255, .int .u8 1, .int .u8 2] 5)
      replace hB := hB.trans (b_.mono hB.size)
      clear b_
      refine (decodes_yes 12 6 _ 9 9 [3, 0, 0, 129, 2, 1, 255, 1, 2] _ RB (by omega) (by omega) (by decide +kernel)).mono ?_
      rintro e y26 ⟨rfl, b_⟩
      replace hB := hB.trans (b_.mono hB.size)
      clear b_
      clear RB
      go_wp2_with fail
      have RB : Rb (y26.alloc (.cells #[.int .u8 2, .int .u8 0, .int .u8 0, .int .u8 5, .int .u8 1, .int .u8 99] 5)) (some ⟨y26.heap.size, 0, none⟩) 6 [2, 0, 0, 5, 1, 99] := reads_bytes y26 [2, 0, 0, 5, 1, 99] 5
      have b_ := (Below.refl y26.heap.size y26).alloc (Nat.le_refl _) (.cells #[.int .u8 2, .int .u8 0, .int .u8 0, .int .u8 5, .int .u8 1, .int .u8 99] 5)
      replace hB := hB.trans (b_.mono hB.size)
      clear b_
      refine (decodes_yes 0 6 _ 6 6 [2, 0, 0, 5, 1, 99] _ RB (by omega) (by omega) (by decide +kernel)).mono ?_
      rintro e y27 ⟨rfl, b_⟩
      replace hB := hB.trans (b_.mono hB.size)
      clear b_
      clear RB
      go_wp2_with fail
      refine (alive8_any _).mono ?_
      rintro e y28 ⟨rfl, b_⟩
      replace hB := hB.trans (b_.mono hB.size)
      clear b_
      go_wp2_with fail
      go_ret
      exact ⟨rfl, hB⟩

end Go.Proofs.Ytldaijkcmnnjpaa
