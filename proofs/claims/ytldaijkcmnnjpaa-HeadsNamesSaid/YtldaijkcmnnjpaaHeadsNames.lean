/- The walk of HeadsNames. No conditions. -/
import Derived.Test.YtldaijkcmnnjpaaHdNm
import Derived.BigQuiet
namespace Go.Proofs.Ytldaijkcmnnjpaa
open Go.RowKit Wire
set_option linter.unusedVariables false

def fullH : List Rtn := [(2, 18446744073709551615, 16781312, 18446744073709551608, 8, (-9223372036854775808))]
def wF : List UInt8 := whsL fullH
theorem full_w : whsL fullH = wF ∧ whsE fullH = 0 := ⟨rfl, by decide +kernel⟩
theorem full_r : rhd wF = some fullH := by
  have h : (match rhd wF with | some l => decide (l = fullH) | none => false) = true := by decide +kernel
  cases hr : rhd wF with
  | none => rw [hr] at h; cases h
  | some l => rw [hr] at h; rw [of_decide_eq_true h]

set_option maxRecDepth 100000 in
set_option maxHeartbeats 8000000 in
theorem headsNames_walk (w : World) :
    Calls Try.prog 7 #[] w fun e w' => e = .returned (.bool true) ∧ Below w.heap.size w w' := by
  go_enter Try.func7, Try.ntmps7
  have hB : Below w.heap.size w w := Below.refl _ _
  have hT : Blk (w.alloc (.cells #[.int .u8 0, .int .i64 0, .int .i64 0, .int .u8 1, .int .i64 0, .int .i64 0, .int .u8 7, .int .i64 0, .int .i64 0, .int .u8 2, .int .i64 (-1), .int .i64 0, .int .u8 2, .int .i64 16, .int .i64 0, .int .u8 3, .int .i64 0, .int .i64 0, .int .u8 6, .int .i64 0, .int .i64 (-1), .int .u8 6, .int .i64 0, .int .i64 5001] 89)) w.heap.size 89 (endT.map endC).flatten.toArray := Blk.new w 89 #[.int .u8 0, .int .i64 0, .int .i64 0, .int .u8 1, .int .i64 0, .int .i64 0, .int .u8 7, .int .i64 0, .int .i64 0, .int .u8 2, .int .i64 (-1), .int .i64 0, .int .u8 2, .int .i64 16, .int .i64 0, .int .u8 3, .int .i64 0, .int .i64 0, .int .u8 6, .int .i64 0, .int .i64 (-1), .int .u8 6, .int .i64 0, .int .i64 5001]
  have HT := Lib.hid hT
  have hPT : w.heap.size < (w.alloc (.cells #[.int .u8 0, .int .i64 0, .int .i64 0, .int .u8 1, .int .i64 0, .int .i64 0, .int .u8 7, .int .i64 0, .int .i64 0, .int .u8 2, .int .i64 (-1), .int .i64 0, .int .u8 2, .int .i64 16, .int .i64 0, .int .u8 3, .int .i64 0, .int .i64 0, .int .u8 6, .int .i64 0, .int .i64 (-1), .int .u8 6, .int .i64 0, .int .i64 5001] 89)).heap.size := hT.lt
  clear hT
  go_wp2_with fail
  have b_ := (Below.refl w.heap.size w).alloc (Nat.le_refl _) (.cells #[.int .u8 0, .int .i64 0, .int .i64 0, .int .u8 1, .int .i64 0, .int .i64 0, .int .u8 7, .int .i64 0, .int .i64 0, .int .u8 2, .int .i64 (-1), .int .i64 0, .int .u8 2, .int .i64 16, .int .i64 0, .int .u8 3, .int .i64 0, .int .i64 0, .int .u8 6, .int .i64 0, .int .i64 (-1), .int .u8 6, .int .i64 0, .int .i64 5001] 89)
  replace hB := hB.trans (b_.mono hB.size)
  clear b_
  generalize (w.alloc (.cells #[.int .u8 0, .int .i64 0, .int .i64 0, .int .u8 1, .int .i64 0, .int .i64 0, .int .u8 7, .int .i64 0, .int .i64 0, .int .u8 2, .int .i64 (-1), .int .i64 0, .int .u8 2, .int .i64 16, .int .i64 0, .int .u8 3, .int .i64 0, .int .i64 0, .int .u8 6, .int .i64 0, .int .i64 (-1), .int .u8 6, .int .i64 0, .int .i64 5001] 89)) = y1 at *
  generalize hG_ : w.heap.size = G1 at HT hPT ⊢
  clear hG_
  have HB0 := Lib.hid hB
  clear hB
  go_loopw [2] (fun i wr => ∃ j : Nat, j ≤ 8 ∧ i = .int .i64 (j : Int) ∧ Below y1.heap.size y1 wr) (fun i _ => 8 - (intOf i).toNat)
  case atStart => exact ⟨0, by omega, rfl, Below.refl _ _⟩
  case round =>
    obtain ⟨j, hj, rfl, hC⟩ := hrel
    by_cases hlt : j < 8
    · have hB := hC
      obtain ⟨x, f, s, hJ, hx, hf, hb⟩ := end_get hlt
      have k0 := stru_at endC 3 (fun _ => rfl) (HT.out.below hC hPT) rfl hJ 0 (by omega)
      have k1 := stru_at endC 3 (fun _ => rfl) (HT.out.below hC hPT) rfl hJ 1 (by omega)
      have k2 := stru_at endC 3 (fun _ => rfl) (HT.out.below hC hPT) rfl hJ 2 (by omega)
      clear hJ
      replace hlt : j < 8 := hlt
      replace k0 : wr.cell? ⟨G1, j * 3, none⟩ = some (.int .u8 (x : Int)) := k0
      replace k1 : wr.cell? ⟨G1, j * 3 + 1, none⟩ = some (.int .i64 f) := k1
      replace k2 : wr.cell? ⟨G1, j * 3 + 2, none⟩ = some (.int .i64 s) := k2
      go_wp2_with fail
      refine (bad_end wr hx hf hb).mono ?_
      rintro e y2 ⟨⟨A1, c1, rfl⟩, b_⟩
      replace hB := hB.trans (b_.mono hB.size)
      clear b_
      go_wp2_with fail
      go_roundw
      case rel => exact ⟨j + 1, by omega, by go_num, hB⟩
      case measure => simp [intOf]; omega
    · replace hj : j = 8 := by omega
      subst hj
      (try rw [show ((8 : Nat) : Int) = 8 from rfl])
      have hB := HB0.out.trans (hC.mono HB0.out.size)
      clear HB0 hC
      clear HT hPT
      go_wp2_with fail
      have HN := rbase27_any 0 wr (by omega)
      refine HN.mono ?_
      rintro e wq ⟨rfl, rfl⟩
      clear HN
      have hT : Blk (wr.alloc (.cells #[.int .u8 0, .int .u64 0, .int .u64 0, .int .u64 0, .int .u64 0, .int .i64 0, .int .u8 4, .int .u64 0, .int .u64 16777216, .int .u64 0, .int .u64 0, .int .i64 0, .int .u8 1, .int .u64 0, .int .u64 16777208, .int .u64 0, .int .u64 0, .int .i64 0, .int .u8 1, .int .u64 0, .int .u64 16781320, .int .u64 0, .int .u64 0, .int .i64 0, .int .u8 1, .int .u64 0, .int .u64 16777220, .int .u64 0, .int .u64 0, .int .i64 0, .int .u8 1, .int .u64 0, .int .u64 16777216, .int .u64 4, .int .u64 0, .int .i64 0, .int .u8 1, .int .u64 0, .int .u64 16777216, .int .u64 0, .int .u64 1, .int .i64 0, .int .u8 1, .int .u64 0, .int .u64 16777216, .int .u64 0, .int .u64 0, .int .i64 1, .int .u8 3, .int .u64 0, .int .u64 16777224, .int .u64 0, .int .u64 0, .int .i64 0, .int .u8 3, .int .u64 256, .int .u64 16777216, .int .u64 0, .int .u64 0, .int .i64 0, .int .u8 3, .int .u64 0, .int .u64 16777216, .int .u64 8, .int .u64 0, .int .i64 0, .int .u8 3, .int .u64 0, .int .u64 16777216, .int .u64 0, .int .u64 8, .int .i64 0, .int .u8 3, .int .u64 0, .int .u64 16777216, .int .u64 0, .int .u64 0, .int .i64 (-1)] 94)) wr.heap.size 94 (badH.map rtC).flatten.toArray := Blk.new wr 94 #[.int .u8 0, .int .u64 0, .int .u64 0, .int .u64 0, .int .u64 0, .int .i64 0, .int .u8 4, .int .u64 0, .int .u64 16777216, .int .u64 0, .int .u64 0, .int .i64 0, .int .u8 1, .int .u64 0, .int .u64 16777208, .int .u64 0, .int .u64 0, .int .i64 0, .int .u8 1, .int .u64 0, .int .u64 16781320, .int .u64 0, .int .u64 0, .int .i64 0, .int .u8 1, .int .u64 0, .int .u64 16777220, .int .u64 0, .int .u64 0, .int .i64 0, .int .u8 1, .int .u64 0, .int .u64 16777216, .int .u64 4, .int .u64 0, .int .i64 0, .int .u8 1, .int .u64 0, .int .u64 16777216, .int .u64 0, .int .u64 1, .int .i64 0, .int .u8 1, .int .u64 0, .int .u64 16777216, .int .u64 0, .int .u64 0, .int .i64 1, .int .u8 3, .int .u64 0, .int .u64 16777224, .int .u64 0, .int .u64 0, .int .i64 0, .int .u8 3, .int .u64 256, .int .u64 16777216, .int .u64 0, .int .u64 0, .int .i64 0, .int .u8 3, .int .u64 0, .int .u64 16777216, .int .u64 8, .int .u64 0, .int .i64 0, .int .u8 3, .int .u64 0, .int .u64 16777216, .int .u64 0, .int .u64 8, .int .i64 0, .int .u8 3, .int .u64 0, .int .u64 16777216, .int .u64 0, .int .u64 0, .int .i64 (-1)]
      have HT := Lib.hid hT
      have hPT : wr.heap.size < (wr.alloc (.cells #[.int .u8 0, .int .u64 0, .int .u64 0, .int .u64 0, .int .u64 0, .int .i64 0, .int .u8 4, .int .u64 0, .int .u64 16777216, .int .u64 0, .int .u64 0, .int .i64 0, .int .u8 1, .int .u64 0, .int .u64 16777208, .int .u64 0, .int .u64 0, .int .i64 0, .int .u8 1, .int .u64 0, .int .u64 16781320, .int .u64 0, .int .u64 0, .int .i64 0, .int .u8 1, .int .u64 0, .int .u64 16777220, .int .u64 0, .int .u64 0, .int .i64 0, .int .u8 1, .int .u64 0, .int .u64 16777216, .int .u64 4, .int .u64 0, .int .i64 0, .int .u8 1, .int .u64 0, .int .u64 16777216, .int .u64 0, .int .u64 1, .int .i64 0, .int .u8 1, .int .u64 0, .int .u64 16777216, .int .u64 0, .int .u64 0, .int .i64 1, .int .u8 3, .int .u64 0, .int .u64 16777224, .int .u64 0, .int .u64 0, .int .i64 0, .int .u8 3, .int .u64 256, .int .u64 16777216, .int .u64 0, .int .u64 0, .int .i64 0, .int .u8 3, .int .u64 0, .int .u64 16777216, .int .u64 8, .int .u64 0, .int .i64 0, .int .u8 3, .int .u64 0, .int .u64 16777216, .int .u64 0, .int .u64 8, .int .i64 0, .int .u8 3, .int .u64 0, .int .u64 16777216, .int .u64 0, .int .u64 0, .int .i64 (-1)] 94)).heap.size := hT.lt
      clear hT
      go_wp2_with fail
      have b_ := (Below.refl wr.heap.size wr).alloc (Nat.le_refl _) (.cells #[.int .u8 0, .int .u64 0, .int .u64 0, .int .u64 0, .int .u64 0, .int .i64 0, .int .u8 4, .int .u64 0, .int .u64 16777216, .int .u64 0, .int .u64 0, .int .i64 0, .int .u8 1, .int .u64 0, .int .u64 16777208, .int .u64 0, .int .u64 0, .int .i64 0, .int .u8 1, .int .u64 0, .int .u64 16781320, .int .u64 0, .int .u64 0, .int .i64 0, .int .u8 1, .int .u64 0, .int .u64 16777220, .int .u64 0, .int .u64 0, .int .i64 0, .int .u8 1, .int .u64 0, .int .u64 16777216, .int .u64 4, .int .u64 0, .int .i64 0, .int .u8 1, .int .u64 0, .int .u64 16777216, .int .u64 0, .int .u64 1, .int .i64 0, .int .u8 1, .int .u64 0, .int .u64 16777216, .int .u64 0, .int .u64 0, .int .i64 1, .int .u8 3, .int .u64 0, .int .u64 16777224, .int .u64 0, .int .u64 0, .int .i64 0, .int .u8 3, .int .u64 256, .int .u64 16777216, .int .u64 0, .int .u64 0, .int .i64 0, .int .u8 3, .int .u64 0, .int .u64 16777216, .int .u64 8, .int .u64 0, .int .i64 0, .int .u8 3, .int .u64 0, .int .u64 16777216, .int .u64 0, .int .u64 8, .int .i64 0, .int .u8 3, .int .u64 0, .int .u64 16777216, .int .u64 0, .int .u64 0, .int .i64 (-1)] 94)
      replace hB := hB.trans (b_.mono hB.size)
      clear b_
      generalize (wr.alloc (.cells #[.int .u8 0, .int .u64 0, .int .u64 0, .int .u64 0, .int .u64 0, .int .i64 0, .int .u8 4, .int .u64 0, .int .u64 16777216, .int .u64 0, .int .u64 0, .int .i64 0, .int .u8 1, .int .u64 0, .int .u64 16777208, .int .u64 0, .int .u64 0, .int .i64 0, .int .u8 1, .int .u64 0, .int .u64 16781320, .int .u64 0, .int .u64 0, .int .i64 0, .int .u8 1, .int .u64 0, .int .u64 16777220, .int .u64 0, .int .u64 0, .int .i64 0, .int .u8 1, .int .u64 0, .int .u64 16777216, .int .u64 4, .int .u64 0, .int .i64 0, .int .u8 1, .int .u64 0, .int .u64 16777216, .int .u64 0, .int .u64 1, .int .i64 0, .int .u8 1, .int .u64 0, .int .u64 16777216, .int .u64 0, .int .u64 0, .int .i64 1, .int .u8 3, .int .u64 0, .int .u64 16777224, .int .u64 0, .int .u64 0, .int .i64 0, .int .u8 3, .int .u64 256, .int .u64 16777216, .int .u64 0, .int .u64 0, .int .i64 0, .int .u8 3, .int .u64 0, .int .u64 16777216, .int .u64 8, .int .u64 0, .int .i64 0, .int .u8 3, .int .u64 0, .int .u64 16777216, .int .u64 0, .int .u64 8, .int .i64 0, .int .u8 3, .int .u64 0, .int .u64 16777216, .int .u64 0, .int .u64 0, .int .i64 (-1)] 94)) = y3 at *
      generalize hG_ : wr.heap.size = G2 at HT hPT ⊢
      clear hG_
      have hsz : ∀ W, (sizeOf 94).run Try.prog W = .ok 6 W := fun W => by kernel_rfl
      have HB0 := Lib.hid hB
      clear hB
      go_loopw [7] (fun i wr => ∃ j : Nat, j ≤ 13 ∧ i = .int .i64 (j : Int) ∧ Below y3.heap.size y3 wr) (fun i _ => 13 - (intOf i).toNat)
      case atStart => exact ⟨0, by omega, rfl, Below.refl _ _⟩
      case round =>
        obtain ⟨j, hj, rfl, hC⟩ := hrel
        by_cases hlt : j < 13
        · have hB := hC
          obtain ⟨x, hJ, hx, hb⟩ := badH_get hlt
          have R := rdT_at (HT.out.below hC hPT) rfl hJ hx
          replace hlt : j < 13 := hlt
          have KS : ∀ W, (Instr.slice 95 (.slice (some ⟨G2, 0, none⟩) 13 13) (some (.int .i64 (j : Int))) (some (.int .i64 ((j : Int) + 1))) none).run Try.prog W = .ok (.slice (some ⟨G2, j * 6, none⟩) 1 (13 - j)) W := fun W => slice_at Try.underlying95 hsz G2 13 13 j 1 rfl rfl (by omega) (by omega) W
          go_wp2_with fail
          refine (bad_heads wr R (by omega) hb).mono ?_
          rintro e y4 ⟨⟨A1, c1, rfl⟩, b_⟩
          replace hB := hB.trans (b_.mono hB.size)
          clear b_
          go_wp2_with fail
          go_roundw
          case rel => exact ⟨j + 1, by omega, by go_num, hB⟩
          case measure => simp [intOf]; omega
        · replace hj : j = 13 := by omega
          subst hj
          (try rw [show ((13 : Nat) : Int) = 13 from rfl])
          have hB := HB0.out.trans (hC.mono HB0.out.size)
          clear HB0 hC
          clear HT hPT hsz
          go_wp2_with fail
          have RN : RdT wr none 0 [] := ⟨rfl, Reads.none_, by simp⟩
          refine (bad_heads wr RN (by omega) (by decide)).mono ?_
          rintro e y5 ⟨⟨A2, c2, rfl⟩, b_⟩
          replace hB := hB.trans (b_.mono hB.size)
          clear b_
          clear RN
          go_wp2_with fail
          refine (done_any 0 y5 (by omega)).mono ?_
          rintro e y6 ⟨rfl, b_⟩
          replace hB := hB.trans (b_.mono hB.size)
          clear b_
          go_wp2_with fail
          refine (done_any 0 y6 (by omega)).mono ?_
          rintro e y7 ⟨rfl, b_⟩
          replace hB := hB.trans (b_.mono hB.size)
          clear b_
          go_wp2_with fail
          have RD : RdT (y7.alloc (.cells #[.int .u8 3, .int .u64 0, .int .u64 16777216, .int .u64 0, .int .u64 0, .int .i64 0, .int .u8 3, .int .u64 0, .int .u64 16777216, .int .u64 0, .int .u64 0, .int .i64 0] 94)) (some ⟨y7.heap.size, 0, none⟩) 2 [(3, 0, 16777216, 0, 0, 0), (3, 0, 16777216, 0, 0, 0)] := rdT_new y7 [(3, 0, 16777216, 0, 0, 0), (3, 0, 16777216, 0, 0, 0)] (by decide) rfl
          have b_ := (Below.refl y7.heap.size y7).alloc (Nat.le_refl _) (.cells #[.int .u8 3, .int .u64 0, .int .u64 16777216, .int .u64 0, .int .u64 0, .int .i64 0, .int .u8 3, .int .u64 0, .int .u64 16777216, .int .u64 0, .int .u64 0, .int .i64 0] 94)
          replace hB := hB.trans (b_.mono hB.size)
          clear b_
          refine (bad_heads _ RD (by omega) (by decide +kernel)).mono ?_
          rintro e y8 ⟨⟨A3, c3, rfl⟩, b_⟩
          replace hB := hB.trans (b_.mono hB.size)
          clear b_
          clear RD
          go_wp2_with fail
          have RF : RdT (y8.alloc (.cells #[.int .u8 2, .int .u64 18446744073709551615, .int .u64 16781312, .int .u64 18446744073709551608, .int .u64 8, .int .i64 (-9223372036854775808)] 94)) (some ⟨y8.heap.size, 0, none⟩) 1 fullH := rdT_new y8 fullH (by decide) rfl
          have HN := writeHeads_any _ 1 1 fullH _ RF (by omega)
          rw [full_w.1, full_w.2] at HN
          have b_ := (Below.refl y8.heap.size y8).alloc (Nat.le_refl _) (.cells #[.int .u8 2, .int .u64 18446744073709551615, .int .u64 16781312, .int .u64 18446744073709551608, .int .u64 8, .int .i64 (-9223372036854775808)] 94)
          replace hB := hB.trans (b_.mono hB.size)
          clear b_
          refine (HN).mono ?_
          rintro e y9 ⟨A5, c5, rfl, o5, b_⟩
          replace RF := RF.mv b_
          replace hB := hB.trans (b_.mono hB.size)
          clear b_
          clear HN
          have R5 := own_rd o5
          clear o5
          go_wp2_with fail
          have HN := readHeads_any A5 wF.length c5 wF _ R5 (by decide)
          unfold RhP at HN
          rw [full_r] at HN
          refine HN.mono ?_
          rintro e y10 ⟨⟨h, _⟩ | ⟨LX, AX, cX, h, rfl, RX⟩, b_⟩
          · cases h
          injection h with h
          subst h
          clear HN R5
          replace RF := RF.mv b_
          replace hB := hB.trans (b_.mono hB.size)
          clear b_
          go_wp2_with fail
          refine inv_go prH [139, 140, 141, 142, 143, 144, 145, 146, 147, 148, 149, 150, 151, 152, 153, 154, 19] (by kernel_rfl) (by kernel_rfl) prH_mv (fun x hx => ?st) (fun V W' hW hV => ?en)
          case st =>
            refine Steps.cons (fun d hd a u hS hdep hoth K hK => ?_) ?_
            · refine wp_mk (.const (.int .i64 17)) (.const (.int .i64 17)) rfl slVV 17 rfl rfl rfl rfl (by omega) ?_
              intro u' o2 b2
              rw [show (Value.slice none 0 0).cells = #[Value.slice none 0 0] from rfl, Nat.mul_one, toList_madeCells_one] at o2
              exact hK _ _ (Below.trans hS (b2.mono (Below.size hS))) b2 ⟨_, rfl, rdC_zeros o2⟩
            refine Steps.cons (fun d hd a u hS hdep hoth K hK => ?_) ?_
            · refine wp_row1 slV 1 _ rfl [.int .u64 0] (by simp [List.zipIdx, ev_const]) (by simp [Value.cells]) rfl (by omega) (by omega) ?_
              exact hK _ _ (st_al hS _).1 (st_al hS _).2 ⟨_, rfl, rdU_one u 0 (by omega)⟩
            refine Steps.cons (fun d hd a u hS hdep hoth K hK => ?_) ?_
            · obtain ⟨g, hv, hU⟩ := hdep 1 140 (by kernel_rfl) rfl
              refine wp_row1 slVV 1 _ rfl [.slice (some ⟨g, 0, none⟩) 1 1] (by simp [List.zipIdx, hv]) (by simp [Value.cells]) rfl (by omega) (by omega) ?_
              exact hK _ _ (st_al hS _).1 (st_al hS _).2 ⟨_, rfl, rdC_one hU rfl (by omega)⟩
            refine Steps.cons (fun d hd a u hS hdep hoth K hK => ?_) ?_
            · refine wp_row1 slV 1 _ rfl [.int .u64 8] (by simp [List.zipIdx, ev_const]) (by simp [Value.cells]) rfl (by omega) (by omega) ?_
              exact hK _ _ (st_al hS _).1 (st_al hS _).2 ⟨_, rfl, rdU_one u 8 (by omega)⟩
            refine Steps.cons (fun d hd a u hS hdep hoth K hK => ?_) ?_
            · obtain ⟨g, hv, hU⟩ := hdep 3 142 (by kernel_rfl) rfl
              refine wp_row1 slVV 1 _ rfl [.slice (some ⟨g, 0, none⟩) 1 1] (by simp [List.zipIdx, hv]) (by simp [Value.cells]) rfl (by omega) (by omega) ?_
              exact hK _ _ (st_al hS _).1 (st_al hS _).2 ⟨_, rfl, rdC_one hU rfl (by omega)⟩
            refine Steps.cons (fun d hd a u hS hdep hoth K hK => ?_) ?_
            · refine wp_row1 slV 1 _ rfl [.int .u64 65540] (by simp [List.zipIdx, ev_const]) (by simp [Value.cells]) rfl (by omega) (by omega) ?_
              exact hK _ _ (st_al hS _).1 (st_al hS _).2 ⟨_, rfl, rdU_one u 65540 (by omega)⟩
            refine Steps.cons (fun d hd a u hS hdep hoth K hK => ?_) ?_
            · obtain ⟨g, hv, hU⟩ := hdep 5 144 (by kernel_rfl) rfl
              refine wp_row1 slVV 1 _ rfl [.slice (some ⟨g, 0, none⟩) 1 1] (by simp [List.zipIdx, hv]) (by simp [Value.cells]) rfl (by omega) (by omega) ?_
              exact hK _ _ (st_al hS _).1 (st_al hS _).2 ⟨_, rfl, rdC_one hU rfl (by omega)⟩
            refine Steps.cons (fun d hd a u hS hdep hoth K hK => ?_) ?_
            · refine wp_row1 slV 1 _ rfl [.int .u64 65528] (by simp [List.zipIdx, ev_const]) (by simp [Value.cells]) rfl (by omega) (by omega) ?_
              exact hK _ _ (st_al hS _).1 (st_al hS _).2 ⟨_, rfl, rdU_one u 65528 (by omega)⟩
            refine Steps.cons (fun d hd a u hS hdep hoth K hK => ?_) ?_
            · obtain ⟨g, hv, hU⟩ := hdep 7 146 (by kernel_rfl) rfl
              refine wp_row1 slVV 1 _ rfl [.slice (some ⟨g, 0, none⟩) 1 1] (by simp [List.zipIdx, hv]) (by simp [Value.cells]) rfl (by omega) (by omega) ?_
              exact hK _ _ (st_al hS _).1 (st_al hS _).2 ⟨_, rfl, rdC_one hU rfl (by omega)⟩
            refine Steps.cons (fun d hd a u hS hdep hoth K hK => ?_) ?_
            · refine wp_row1 slV 1 _ rfl [.int .u64 81920] (by simp [List.zipIdx, ev_const]) (by simp [Value.cells]) rfl (by omega) (by omega) ?_
              exact hK _ _ (st_al hS _).1 (st_al hS _).2 ⟨_, rfl, rdU_one u 81920 (by omega)⟩
            refine Steps.cons (fun d hd a u hS hdep hoth K hK => ?_) ?_
            · obtain ⟨g, hv, hU⟩ := hdep 9 148 (by kernel_rfl) rfl
              refine wp_row1 slVV 1 _ rfl [.slice (some ⟨g, 0, none⟩) 1 1] (by simp [List.zipIdx, hv]) (by simp [Value.cells]) rfl (by omega) (by omega) ?_
              exact hK _ _ (st_al hS _).1 (st_al hS _).2 ⟨_, rfl, rdC_one hU rfl (by omega)⟩
            refine Steps.cons (fun d hd a u hS hdep hoth K hK => ?_) ?_
            · refine wp_row1 slV 1 _ rfl [.int .u64 18446744073709551608] (by simp [List.zipIdx, ev_const]) (by simp [Value.cells]) rfl (by omega) (by omega) ?_
              exact hK _ _ (st_al hS _).1 (st_al hS _).2 ⟨_, rfl, rdU_one u 18446744073709551608 (by omega)⟩
            refine Steps.cons (fun d hd a u hS hdep hoth K hK => ?_) ?_
            · obtain ⟨g, hv, hU⟩ := hdep 11 150 (by kernel_rfl) rfl
              refine wp_row1 slVV 1 _ rfl [.slice (some ⟨g, 0, none⟩) 1 1] (by simp [List.zipIdx, hv]) (by simp [Value.cells]) rfl (by omega) (by omega) ?_
              exact hK _ _ (st_al hS _).1 (st_al hS _).2 ⟨_, rfl, rdC_one hU rfl (by omega)⟩
            refine Steps.cons (fun d hd a u hS hdep hoth K hK => ?_) ?_
            · refine wp_mk (.const (.int .i64 411)) (.const (.int .i64 411)) rfl slV 411 rfl rfl rfl rfl (by omega) ?_
              intro u' o2 b2
              rw [show (Value.int .u64 0).cells = #[Value.int .u64 0] from rfl, Nat.mul_one, toList_madeCells_one] at o2
              exact hK _ _ (Below.trans hS (b2.mono (Below.size hS))) b2 ⟨_, rfl, rdU_zeros o2⟩
            refine Steps.cons (fun d hd a u hS hdep hoth K hK => ?_) ?_
            · obtain ⟨g, hv, hU⟩ := hdep 13 152 (by kernel_rfl) rfl
              refine wp_row1 slVV 1 _ rfl [.slice (some ⟨g, 0, none⟩) 411 411] (by simp [List.zipIdx, hv]) (by simp [Value.cells]) rfl (by omega) (by omega) ?_
              exact hK _ _ (st_al hS _).1 (st_al hS _).2 ⟨_, rfl, rdC_one hU (List.length_replicate) (by omega)⟩
            refine Steps.cons (fun d hd a u hS hdep hoth K hK => ?_) ?_
            · obtain ⟨g0, e0, h0⟩ := hdep 0 139 (by kernel_rfl) rfl
              obtain ⟨g1, e1, h1⟩ := hdep 2 141 (by kernel_rfl) rfl
              obtain ⟨g2, e2, h2⟩ := hdep 4 143 (by kernel_rfl) rfl
              obtain ⟨g3, e3, h3⟩ := hdep 6 145 (by kernel_rfl) rfl
              obtain ⟨g4, e4, h4⟩ := hdep 8 147 (by kernel_rfl) rfl
              obtain ⟨g5, e5, h5⟩ := hdep 10 149 (by kernel_rfl) rfl
              obtain ⟨g6, e6, h6⟩ := hdep 12 151 (by kernel_rfl) rfl
              obtain ⟨g7, e7, h7⟩ := hdep 14 153 (by kernel_rfl) rfl
              refine wp_row1 slV3 9 _ rfl [.slice none 0 0, .slice (some ⟨g0, 0, none⟩) 17 17, .slice (some ⟨g1, 0, none⟩) 1 1, .slice (some ⟨g2, 0, none⟩) 1 1, .slice (some ⟨g3, 0, none⟩) 1 1, .slice (some ⟨g4, 0, none⟩) 1 1, .slice (some ⟨g5, 0, none⟩) 1 1, .slice (some ⟨g6, 0, none⟩) 1 1, .slice (some ⟨g7, 0, none⟩) 1 1] (by simp [List.zipIdx, ev_const, e0, e1, e2, e3, e4, e5, e6, e7]) (by simp [Value.cells]) rfl (by omega) (by omega) ?_
              refine hK _ _ (st_al hS _).1 (st_al hS _).2 ⟨_, rfl, fun j hj => ?_⟩
              have hq := Blk.new u 100 #[.slice none 0 0, .slice (some ⟨g0, 0, none⟩) 17 17, .slice (some ⟨g1, 0, none⟩) 1 1, .slice (some ⟨g2, 0, none⟩) 1 1, .slice (some ⟨g3, 0, none⟩) 1 1, .slice (some ⟨g4, 0, none⟩) 1 1, .slice (some ⟨g5, 0, none⟩) 1 1, .slice (some ⟨g6, 0, none⟩) 1 1, .slice (some ⟨g7, 0, none⟩) 1 1]
              have hl := hq.lt
              rcases j with _ | _ | _ | _ | _ | _ | _ | _ | _ | j
              · exact ⟨none, 0, [], (hq.cell 0).trans rfl, hl, by omega, ⟨rfl, [], Reads.none_, by simp⟩, by decide⟩
              · exact ⟨_, 17, _, (hq.cell 1).trans rfl, hl, by omega, h0.mv (st_al hS _).2, csB_17⟩
              · exact ⟨_, 1, _, (hq.cell 2).trans rfl, hl, by omega, h1.mv (st_al hS _).2, (by decide +kernel)⟩
              · exact ⟨_, 1, _, (hq.cell 3).trans rfl, hl, by omega, h2.mv (st_al hS _).2, (by decide +kernel)⟩
              · exact ⟨_, 1, _, (hq.cell 4).trans rfl, hl, by omega, h3.mv (st_al hS _).2, (by decide +kernel)⟩
              · exact ⟨_, 1, _, (hq.cell 5).trans rfl, hl, by omega, h4.mv (st_al hS _).2, (by decide +kernel)⟩
              · exact ⟨_, 1, _, (hq.cell 6).trans rfl, hl, by omega, h5.mv (st_al hS _).2, (by decide +kernel)⟩
              · exact ⟨_, 1, _, (hq.cell 7).trans rfl, hl, by omega, h6.mv (st_al hS _).2, (by decide +kernel)⟩
              · exact ⟨_, 1, _, (hq.cell 8).trans rfl, hl, by omega, h7.mv (st_al hS _).2, csB_411⟩
              · omega
            refine Steps.cons (fun d hd a u hS hdep hoth K hK => ?_) ?_
            · refine wp_same (.tmp 154) (.inl rfl) ?_
              exact hK _ _ hS (Below.refl _ _) (hdep 15 154 (by kernel_rfl) rfl)
            exact trivial
          case en =>
            obtain ⟨g, hv, HTC⟩ : prT (V 16) W' := hV 16 19 rfl
            clear hV
            simp only [putL, Act.put, List.setIfInBounds_toArray, List.set_cons_zero, List.set_cons_succ, Nat.zero_add, Nat.reduceAdd]
            rw [hv]
            replace RF := RF.mv hW
            replace RX := RX.mv hW
            replace hB := hB.trans (hW.mono hB.size)
            clear hW hv
            have HTC := Lib.hid HTC
            go_wp2_with fail
            have HB0 := Lib.hid hB
            clear hB
            go_loopw [20] (fun i wr => ∃ j : Nat, j ≤ 9 ∧ i = .int .i64 (j : Int) ∧ Below W'.heap.size W' wr) (fun i _ => 9 - (intOf i).toNat)
            case atStart => exact ⟨0, by omega, rfl, Below.refl _ _⟩
            case round =>
              obtain ⟨j, hj, rfl, hC⟩ := hrel
              by_cases hlt : j < 9
              · have hB := hC
                obtain ⟨A, n, LL, hcell, _, hn, R, hb⟩ := (HTC.out.mv hC) j hlt
                go_wp2_with fail
                refine (bad_chains wr R hn hb).mono ?_
                rintro e y11 ⟨⟨A1, c1, rfl⟩, b_⟩
                replace hB := hB.trans (b_.mono hB.size)
                clear b_
                go_wp2_with fail
                go_roundw
                case rel => exact ⟨j + 1, by omega, by go_num, hB⟩
                case measure => simp [intOf]; omega
              · replace hj : j = 9 := by omega
                subst hj
                (try rw [show ((9 : Nat) : Int) = 9 from rfl])
                replace RF := RF.mv hC
                replace RX := RX.mv hC
                have hB := HB0.out.trans (hC.mono HB0.out.size)
                clear HB0 hC
                clear HTC
                go_wp2_with fail
                obtain ⟨w0_, hw0_⟩ : ∃ x, x = wr := ⟨_, rfl⟩
                clear hw0_ w0_
                obtain ⟨hT, hbT⟩ := rdX_tab (w := wr) (w1 := ((((((((((wr.alloc (.cells #[.int .u8 0] 5)).alloc (.cells #[.int .u8 17] 5)).alloc (.cells #[.int .u8 128, .int .u8 0] 5)).alloc (.cells #[.int .u8 1] 5)).alloc (.cells #[.int .u8 1, .int .u8 3, .int .u8 0, .int .u8 0, .int .u8 0, .int .u8 0] 5)).alloc (.cells #[.int .u8 1, .int .u8 3, .int .u8 0, .int .u8 0, .int .u8 0, .int .u8 0, .int .u8 0, .int .u8 0] 5)).alloc (.cells #[.int .u8 1, .int .u8 3, .int .u8 1, .int .u8 0, .int .u8 0, .int .u8 0, .int .u8 0] 5)).alloc (.cells #[.int .u8 2, .int .u8 3, .int .u8 0, .int .u8 0, .int .u8 0, .int .u8 0, .int .u8 0] 5)).alloc (.cells #[.int .u8 1, .int .u8 1, .int .u8 0, .int .u8 129, .int .u8 4, .int .u8 0, .int .u8 0, .int .u8 0] 5)).alloc (.cells #[.int .u8 1, .int .u8 1, .int .u8 0, .int .u8 0, .int .u8 128, .int .u8 128, .int .u8 128, .int .u8 128, .int .u8 128, .int .u8 128, .int .u8 128, .int .u8 128, .int .u8 32, .int .u8 0, .int .u8 0] 5))) (t := 5) (t2 := 25) (F := fun l : List UInt8 => l.map b8) (sz := 1) (fun l => by simp) formT (by decide) rfl (cs := #[.slice none 0 0, .slice (some ⟨wr.heap.size, 0, none⟩) 1 1, .slice (some ⟨wr.heap.size + 1, 0, none⟩) 1 1, .slice (some ⟨wr.heap.size + 1 + 1, 0, none⟩) 2 2, .slice (some ⟨wr.heap.size + 1 + 1 + 1, 0, none⟩) 1 1, .slice (some ⟨wr.heap.size + 1 + 1 + 1 + 1, 0, none⟩) 6 6, .slice (some ⟨wr.heap.size + 1 + 1 + 1 + 1 + 1, 0, none⟩) 8 8, .slice (some ⟨wr.heap.size + 1 + 1 + 1 + 1 + 1 + 1, 0, none⟩) 7 7, .slice (some ⟨wr.heap.size + 1 + 1 + 1 + 1 + 1 + 1 + 1, 0, none⟩) 7 7, .slice (some ⟨wr.heap.size + 1 + 1 + 1 + 1 + 1 + 1 + 1 + 1, 0, none⟩) 8 8, .slice (some ⟨wr.heap.size + 1 + 1 + 1 + 1 + 1 + 1 + 1 + 1 + 1, 0, none⟩) 15 15]) rfl
                rw [show ((((((((((wr.alloc (.cells #[.int .u8 0] 5)).alloc (.cells #[.int .u8 17] 5)).alloc (.cells #[.int .u8 128, .int .u8 0] 5)).alloc (.cells #[.int .u8 1] 5)).alloc (.cells #[.int .u8 1, .int .u8 3, .int .u8 0, .int .u8 0, .int .u8 0, .int .u8 0] 5)).alloc (.cells #[.int .u8 1, .int .u8 3, .int .u8 0, .int .u8 0, .int .u8 0, .int .u8 0, .int .u8 0, .int .u8 0] 5)).alloc (.cells #[.int .u8 1, .int .u8 3, .int .u8 1, .int .u8 0, .int .u8 0, .int .u8 0, .int .u8 0] 5)).alloc (.cells #[.int .u8 2, .int .u8 3, .int .u8 0, .int .u8 0, .int .u8 0, .int .u8 0, .int .u8 0] 5)).alloc (.cells #[.int .u8 1, .int .u8 1, .int .u8 0, .int .u8 129, .int .u8 4, .int .u8 0, .int .u8 0, .int .u8 0] 5)).alloc (.cells #[.int .u8 1, .int .u8 1, .int .u8 0, .int .u8 0, .int .u8 128, .int .u8 128, .int .u8 128, .int .u8 128, .int .u8 128, .int .u8 128, .int .u8 128, .int .u8 128, .int .u8 32, .int .u8 0, .int .u8 0] 5)).heap.size = wr.heap.size + 1 + 1 + 1 + 1 + 1 + 1 + 1 + 1 + 1 + 1 from by simp] at hT
                go_wp2_with fail
                generalize ((((((((((wr.alloc (.cells #[.int .u8 0] 5)).alloc (.cells #[.int .u8 17] 5)).alloc (.cells #[.int .u8 128, .int .u8 0] 5)).alloc (.cells #[.int .u8 1] 5)).alloc (.cells #[.int .u8 1, .int .u8 3, .int .u8 0, .int .u8 0, .int .u8 0, .int .u8 0] 5)).alloc (.cells #[.int .u8 1, .int .u8 3, .int .u8 0, .int .u8 0, .int .u8 0, .int .u8 0, .int .u8 0, .int .u8 0] 5)).alloc (.cells #[.int .u8 1, .int .u8 3, .int .u8 1, .int .u8 0, .int .u8 0, .int .u8 0, .int .u8 0] 5)).alloc (.cells #[.int .u8 2, .int .u8 3, .int .u8 0, .int .u8 0, .int .u8 0, .int .u8 0, .int .u8 0] 5)).alloc (.cells #[.int .u8 1, .int .u8 1, .int .u8 0, .int .u8 129, .int .u8 4, .int .u8 0, .int .u8 0, .int .u8 0] 5)).alloc (.cells #[.int .u8 1, .int .u8 1, .int .u8 0, .int .u8 0, .int .u8 128, .int .u8 128, .int .u8 128, .int .u8 128, .int .u8 128, .int .u8 128, .int .u8 128, .int .u8 128, .int .u8 32, .int .u8 0, .int .u8 0] 5)).alloc (.cells #[.slice none 0 0, .slice (some ⟨wr.heap.size, 0, none⟩) 1 1, .slice (some ⟨wr.heap.size + 1, 0, none⟩) 1 1, .slice (some ⟨wr.heap.size + 1 + 1, 0, none⟩) 2 2, .slice (some ⟨wr.heap.size + 1 + 1 + 1, 0, none⟩) 1 1, .slice (some ⟨wr.heap.size + 1 + 1 + 1 + 1, 0, none⟩) 6 6, .slice (some ⟨wr.heap.size + 1 + 1 + 1 + 1 + 1, 0, none⟩) 8 8, .slice (some ⟨wr.heap.size + 1 + 1 + 1 + 1 + 1 + 1, 0, none⟩) 7 7, .slice (some ⟨wr.heap.size + 1 + 1 + 1 + 1 + 1 + 1 + 1, 0, none⟩) 7 7, .slice (some ⟨wr.heap.size + 1 + 1 + 1 + 1 + 1 + 1 + 1 + 1, 0, none⟩) 8 8, .slice (some ⟨wr.heap.size + 1 + 1 + 1 + 1 + 1 + 1 + 1 + 1 + 1, 0, none⟩) 15 15] 25) = y12 at *
                generalize hPT_ : wr.heap.size + 1 + 1 + 1 + 1 + 1 + 1 + 1 + 1 + 1 + 1 = PT24 at *
                clear hPT_
                replace RF := RF.mv hbT
                replace RX := RX.mv hbT
                replace hB := hB.trans (hbT.mono hB.size)
                clear hbT
                have HT := Lib.hid hT
                clear hT
                have HB0 := Lib.hid hB
                clear hB
                go_loopw [24] (fun i wr => ∃ j : Nat, j ≤ 11 ∧ i = .int .i64 (j : Int) ∧ Below y12.heap.size y12 wr) (fun i _ => 11 - (intOf i).toNat)
                case atStart => exact ⟨0, by omega, rfl, Below.refl _ _⟩
                case round =>
                  obtain ⟨j, hj, rfl, hC⟩ := hrel
                  by_cases hlt : j < 11
                  · have hB := hC
                    obtain ⟨A, c, l, hL, hcell, hcc, R⟩ := (HT.out.mv hC).at_ hlt
                    have hm := List.mem_of_getElem? hL
                    clear hL
                    have hl := formT_len l hm
                    go_wp2_with fail
                    refine (bad_rh wr R hm hl).mono ?_
                    rintro e y13 ⟨rfl, b_⟩
                    replace hB := hB.trans (b_.mono hB.size)
                    clear b_
                    go_wp2_with fail
                    go_roundw
                    case rel => exact ⟨j + 1, by omega, by go_num, hB⟩
                    case measure => simp [intOf]; omega
                  · replace hj : j = 11 := by omega
                    subst hj
                    (try rw [show ((11 : Nat) : Int) = 11 from rfl])
                    replace RF := RF.mv hC
                    replace RX := RX.mv hC
                    have hB := HB0.out.trans (hC.mono HB0.out.size)
                    clear HB0 hC
                    clear HT
                    go_wp2_with fail
                    obtain ⟨w0_, hw0_⟩ : ∃ x, x = wr := ⟨_, rfl⟩
                    clear hw0_ w0_
                    obtain ⟨hT, hbT⟩ := rdX_tab (w := wr) (w1 := (((((((((wr.alloc (.cells #[.int .u8 0] 5)).alloc (.cells #[.int .u8 17] 5)).alloc (.cells #[.int .u8 1] 5)).alloc (.cells #[.int .u8 1, .int .u8 1] 5)).alloc (.cells #[.int .u8 1, .int .u8 1, .int .u8 0] 5)).alloc (.cells #[.int .u8 1, .int .u8 0, .int .u8 0] 5)).alloc (.cells #[.int .u8 1, .int .u8 155, .int .u8 3] 5)).alloc (.cells #[.int .u8 1, .int .u8 1, .int .u8 128, .int .u8 0] 5)).alloc (.cells #[.int .u8 1, .int .u8 1, .int .u8 128, .int .u8 128, .int .u8 128, .int .u8 128, .int .u8 128, .int .u8 128, .int .u8 128, .int .u8 128, .int .u8 32] 5))) (t := 5) (t2 := 25) (F := fun l : List UInt8 => l.map b8) (sz := 1) (fun l => by simp) listT (by decide) rfl (cs := #[.slice none 0 0, .slice (some ⟨wr.heap.size, 0, none⟩) 1 1, .slice (some ⟨wr.heap.size + 1, 0, none⟩) 1 1, .slice (some ⟨wr.heap.size + 1 + 1, 0, none⟩) 1 1, .slice (some ⟨wr.heap.size + 1 + 1 + 1, 0, none⟩) 2 2, .slice (some ⟨wr.heap.size + 1 + 1 + 1 + 1, 0, none⟩) 3 3, .slice (some ⟨wr.heap.size + 1 + 1 + 1 + 1 + 1, 0, none⟩) 3 3, .slice (some ⟨wr.heap.size + 1 + 1 + 1 + 1 + 1 + 1, 0, none⟩) 3 3, .slice (some ⟨wr.heap.size + 1 + 1 + 1 + 1 + 1 + 1 + 1, 0, none⟩) 4 4, .slice (some ⟨wr.heap.size + 1 + 1 + 1 + 1 + 1 + 1 + 1 + 1, 0, none⟩) 11 11]) rfl
                    rw [show (((((((((wr.alloc (.cells #[.int .u8 0] 5)).alloc (.cells #[.int .u8 17] 5)).alloc (.cells #[.int .u8 1] 5)).alloc (.cells #[.int .u8 1, .int .u8 1] 5)).alloc (.cells #[.int .u8 1, .int .u8 1, .int .u8 0] 5)).alloc (.cells #[.int .u8 1, .int .u8 0, .int .u8 0] 5)).alloc (.cells #[.int .u8 1, .int .u8 155, .int .u8 3] 5)).alloc (.cells #[.int .u8 1, .int .u8 1, .int .u8 128, .int .u8 0] 5)).alloc (.cells #[.int .u8 1, .int .u8 1, .int .u8 128, .int .u8 128, .int .u8 128, .int .u8 128, .int .u8 128, .int .u8 128, .int .u8 128, .int .u8 128, .int .u8 32] 5)).heap.size = wr.heap.size + 1 + 1 + 1 + 1 + 1 + 1 + 1 + 1 + 1 from by simp] at hT
                    go_wp2_with fail
                    generalize (((((((((wr.alloc (.cells #[.int .u8 0] 5)).alloc (.cells #[.int .u8 17] 5)).alloc (.cells #[.int .u8 1] 5)).alloc (.cells #[.int .u8 1, .int .u8 1] 5)).alloc (.cells #[.int .u8 1, .int .u8 1, .int .u8 0] 5)).alloc (.cells #[.int .u8 1, .int .u8 0, .int .u8 0] 5)).alloc (.cells #[.int .u8 1, .int .u8 155, .int .u8 3] 5)).alloc (.cells #[.int .u8 1, .int .u8 1, .int .u8 128, .int .u8 0] 5)).alloc (.cells #[.int .u8 1, .int .u8 1, .int .u8 128, .int .u8 128, .int .u8 128, .int .u8 128, .int .u8 128, .int .u8 128, .int .u8 128, .int .u8 128, .int .u8 32] 5)).alloc (.cells #[.slice none 0 0, .slice (some ⟨wr.heap.size, 0, none⟩) 1 1, .slice (some ⟨wr.heap.size + 1, 0, none⟩) 1 1, .slice (some ⟨wr.heap.size + 1 + 1, 0, none⟩) 1 1, .slice (some ⟨wr.heap.size + 1 + 1 + 1, 0, none⟩) 2 2, .slice (some ⟨wr.heap.size + 1 + 1 + 1 + 1, 0, none⟩) 3 3, .slice (some ⟨wr.heap.size + 1 + 1 + 1 + 1 + 1, 0, none⟩) 3 3, .slice (some ⟨wr.heap.size + 1 + 1 + 1 + 1 + 1 + 1, 0, none⟩) 3 3, .slice (some ⟨wr.heap.size + 1 + 1 + 1 + 1 + 1 + 1 + 1, 0, none⟩) 4 4, .slice (some ⟨wr.heap.size + 1 + 1 + 1 + 1 + 1 + 1 + 1 + 1, 0, none⟩) 11 11] 25) = y14 at *
                    generalize hPT_ : wr.heap.size + 1 + 1 + 1 + 1 + 1 + 1 + 1 + 1 + 1 = PT28 at *
                    clear hPT_
                    replace RF := RF.mv hbT
                    replace RX := RX.mv hbT
                    replace hB := hB.trans (hbT.mono hB.size)
                    clear hbT
                    have HT := Lib.hid hT
                    clear hT
                    have HB0 := Lib.hid hB
                    clear hB
                    go_loopw [28] (fun i wr => ∃ j : Nat, j ≤ 10 ∧ i = .int .i64 (j : Int) ∧ Below y14.heap.size y14 wr) (fun i _ => 10 - (intOf i).toNat)
                    case atStart => exact ⟨0, by omega, rfl, Below.refl _ _⟩
                    case round =>
                      obtain ⟨j, hj, rfl, hC⟩ := hrel
                      by_cases hlt : j < 10
                      · have hB := hC
                        obtain ⟨A, c, l, hL, hcell, hcc, R⟩ := (HT.out.mv hC).at_ hlt
                        have hm := List.mem_of_getElem? hL
                        clear hL
                        have hl := listT_len l hm
                        go_wp2_with fail
                        refine (bad_rc wr R hm hl).mono ?_
                        rintro e y15 ⟨rfl, b_⟩
                        replace hB := hB.trans (b_.mono hB.size)
                        clear b_
                        go_wp2_with fail
                        go_roundw
                        case rel => exact ⟨j + 1, by omega, by go_num, hB⟩
                        case measure => simp [intOf]; omega
                      · replace hj : j = 10 := by omega
                        subst hj
                        (try rw [show ((10 : Nat) : Int) = 10 from rfl])
                        replace RF := RF.mv hC
                        replace RX := RX.mv hC
                        have hB := HB0.out.trans (hC.mono HB0.out.size)
                        clear HB0 hC
                        clear HT
                        go_wp2_with fail
                        obtain ⟨w0_, hw0_⟩ : ∃ x, x = wr := ⟨_, rfl⟩
                        clear hw0_ w0_
                        obtain ⟨hT, hbT⟩ := rdX_tab (w := wr) (w1 := (((((((((wr.alloc (.cells #[.int .u8 2] 5)).alloc (.cells #[.int .u8 2, .int .u8 0] 5)).alloc (.cells #[.int .u8 2, .int .u8 0, .int .u8 0, .int .u8 0] 5)).alloc (.cells #[.int .u8 2, .int .u8 1, .int .u8 0] 5)).alloc (.cells #[.int .u8 2, .int .u8 32, .int .u8 0] 5)).alloc (.cells #[.int .u8 3, .int .u8 0, .int .u8 0] 5)).alloc (.cells #[.int .u8 1, .int .u8 0, .int .u8 0] 5)).alloc (.cells #[.int .u8 2, .int .u8 0, .int .u8 137, .int .u8 39] 5)).alloc (.cells #[.int .u8 2, .int .u8 255, .int .u8 255, .int .u8 255, .int .u8 255, .int .u8 255, .int .u8 255, .int .u8 255, .int .u8 255, .int .u8 255, .int .u8 1, .int .u8 0] 5))) (t := 5) (t2 := 25) (F := fun l : List UInt8 => l.map b8) (sz := 1) (fun l => by simp) outT (by decide) rfl (cs := #[.slice none 0 0, .slice (some ⟨wr.heap.size, 0, none⟩) 1 1, .slice (some ⟨wr.heap.size + 1, 0, none⟩) 2 2, .slice (some ⟨wr.heap.size + 1 + 1, 0, none⟩) 4 4, .slice (some ⟨wr.heap.size + 1 + 1 + 1, 0, none⟩) 3 3, .slice (some ⟨wr.heap.size + 1 + 1 + 1 + 1, 0, none⟩) 3 3, .slice (some ⟨wr.heap.size + 1 + 1 + 1 + 1 + 1, 0, none⟩) 3 3, .slice (some ⟨wr.heap.size + 1 + 1 + 1 + 1 + 1 + 1, 0, none⟩) 3 3, .slice (some ⟨wr.heap.size + 1 + 1 + 1 + 1 + 1 + 1 + 1, 0, none⟩) 4 4, .slice (some ⟨wr.heap.size + 1 + 1 + 1 + 1 + 1 + 1 + 1 + 1, 0, none⟩) 12 12]) rfl
                        rw [show (((((((((wr.alloc (.cells #[.int .u8 2] 5)).alloc (.cells #[.int .u8 2, .int .u8 0] 5)).alloc (.cells #[.int .u8 2, .int .u8 0, .int .u8 0, .int .u8 0] 5)).alloc (.cells #[.int .u8 2, .int .u8 1, .int .u8 0] 5)).alloc (.cells #[.int .u8 2, .int .u8 32, .int .u8 0] 5)).alloc (.cells #[.int .u8 3, .int .u8 0, .int .u8 0] 5)).alloc (.cells #[.int .u8 1, .int .u8 0, .int .u8 0] 5)).alloc (.cells #[.int .u8 2, .int .u8 0, .int .u8 137, .int .u8 39] 5)).alloc (.cells #[.int .u8 2, .int .u8 255, .int .u8 255, .int .u8 255, .int .u8 255, .int .u8 255, .int .u8 255, .int .u8 255, .int .u8 255, .int .u8 255, .int .u8 1, .int .u8 0] 5)).heap.size = wr.heap.size + 1 + 1 + 1 + 1 + 1 + 1 + 1 + 1 + 1 from by simp] at hT
                        go_wp2_with fail
                        generalize (((((((((wr.alloc (.cells #[.int .u8 2] 5)).alloc (.cells #[.int .u8 2, .int .u8 0] 5)).alloc (.cells #[.int .u8 2, .int .u8 0, .int .u8 0, .int .u8 0] 5)).alloc (.cells #[.int .u8 2, .int .u8 1, .int .u8 0] 5)).alloc (.cells #[.int .u8 2, .int .u8 32, .int .u8 0] 5)).alloc (.cells #[.int .u8 3, .int .u8 0, .int .u8 0] 5)).alloc (.cells #[.int .u8 1, .int .u8 0, .int .u8 0] 5)).alloc (.cells #[.int .u8 2, .int .u8 0, .int .u8 137, .int .u8 39] 5)).alloc (.cells #[.int .u8 2, .int .u8 255, .int .u8 255, .int .u8 255, .int .u8 255, .int .u8 255, .int .u8 255, .int .u8 255, .int .u8 255, .int .u8 255, .int .u8 1, .int .u8 0] 5)).alloc (.cells #[.slice none 0 0, .slice (some ⟨wr.heap.size, 0, none⟩) 1 1, .slice (some ⟨wr.heap.size + 1, 0, none⟩) 2 2, .slice (some ⟨wr.heap.size + 1 + 1, 0, none⟩) 4 4, .slice (some ⟨wr.heap.size + 1 + 1 + 1, 0, none⟩) 3 3, .slice (some ⟨wr.heap.size + 1 + 1 + 1 + 1, 0, none⟩) 3 3, .slice (some ⟨wr.heap.size + 1 + 1 + 1 + 1 + 1, 0, none⟩) 3 3, .slice (some ⟨wr.heap.size + 1 + 1 + 1 + 1 + 1 + 1, 0, none⟩) 3 3, .slice (some ⟨wr.heap.size + 1 + 1 + 1 + 1 + 1 + 1 + 1, 0, none⟩) 4 4, .slice (some ⟨wr.heap.size + 1 + 1 + 1 + 1 + 1 + 1 + 1 + 1, 0, none⟩) 12 12] 25) = y16 at *
                        generalize hPT_ : wr.heap.size + 1 + 1 + 1 + 1 + 1 + 1 + 1 + 1 + 1 = PT32 at *
                        clear hPT_
                        replace RF := RF.mv hbT
                        replace RX := RX.mv hbT
                        replace hB := hB.trans (hbT.mono hB.size)
                        clear hbT
                        have HT := Lib.hid hT
                        clear hT
                        have HB0 := Lib.hid hB
                        clear hB
                        go_loopw [32] (fun i wr => ∃ j : Nat, j ≤ 10 ∧ i = .int .i64 (j : Int) ∧ Below y16.heap.size y16 wr) (fun i _ => 10 - (intOf i).toNat)
                        case atStart => exact ⟨0, by omega, rfl, Below.refl _ _⟩
                        case round =>
                          obtain ⟨j, hj, rfl, hC⟩ := hrel
                          by_cases hlt : j < 10
                          · have hB := hC
                            obtain ⟨A, c, l, hL, hcell, hcc, R⟩ := (HT.out.mv hC).at_ hlt
                            have hm := List.mem_of_getElem? hL
                            clear hL
                            have hl := outT_len l hm
                            go_wp2_with fail
                            refine (bad_re wr R hm hl).mono ?_
                            rintro e y17 ⟨rfl, b_⟩
                            replace hB := hB.trans (b_.mono hB.size)
                            clear b_
                            have b_ := (Below.refl y17.heap.size y17).alloc (Nat.le_refl _) (.cells #[.int .u8 0, .int .i64 0, .int .i64 0] 89)
                            replace hB := hB.trans (b_.mono hB.size)
                            clear b_
                            go_wp2_with fail
                            go_roundw
                            case rel => exact ⟨j + 1, by omega, by go_num, hB⟩
                            case measure => simp [intOf]; omega
                          · replace hj : j = 10 := by omega
                            subst hj
                            (try rw [show ((10 : Nat) : Int) = 10 from rfl])
                            replace RF := RF.mv hC
                            replace RX := RX.mv hC
                            have hB := HB0.out.trans (hC.mono HB0.out.size)
                            clear HB0 hC
                            clear HT
                            go_wp2_with fail
                            have RL : Rb (wr.alloc (.cells #[.int .u8 6, .int .u8 30, .int .u8 136, .int .u8 39] 5)) (some ⟨wr.heap.size, 0, none⟩) 4 [6, 30, 136, 39] := reads_bytes wr [6, 30, 136, 39] 5
                            have b_ := (Below.refl wr.heap.size wr).alloc (Nat.le_refl _) (.cells #[.int .u8 6, .int .u8 30, .int .u8 136, .int .u8 39] 5)
                            replace RF := RF.mv b_
                            replace RX := RX.mv b_
                            replace hB := hB.trans (b_.mono hB.size)
                            clear b_
                            have HN := readEnded_any (some ⟨wr.heap.size, 0, none⟩) 4 4 [6, 30, 136, 39] _ RL (by decide)
                            unfold ReP at HN
                            rw [show red [6, 30, 136, 39] = some (6, 15, 5000) from by decide +kernel] at HN
                            refine HN.mono ?_
                            rintro e y18 ⟨⟨h, _⟩ | ⟨x_, f_, s_, h, rfl⟩, b_⟩
                            · cases h
                            injection h with h
                            obtain ⟨rfl, rfl, rfl⟩ := h
                            clear HN RL
                            replace RF := RF.mv b_
                            replace RX := RX.mv b_
                            replace hB := hB.trans (b_.mono hB.size)
                            clear b_
                            have hY := Blk.new y18 89 #[.int .u8 6, .int .i64 15, .int .i64 5000]
                            have b_ := (Below.refl y18.heap.size y18).alloc (Nat.le_refl _) (.cells #[.int .u8 6, .int .i64 15, .int .i64 5000] 89)
                            replace RF := RF.mv b_
                            replace RX := RX.mv b_
                            replace hB := hB.trans (b_.mono hB.size)
                            clear b_
                            go_upto_region 50 with (fail)
                            generalize (y18.alloc (.cells #[.int .u8 6, .int .i64 15, .int .i64 5000] 89)) = y20 at *
                            go_wp2_with (refine wpList_mk1 _ rfl (.const (.int .i64 410)) (.const (.int .i64 410)) rfl slV rfl 410 (by rfl) (by rfl) rfl rfl (by omega) ?_; intro y19 o2 b_)
                            have hZ : Blk y19 y20.heap.size 55 (arr .u64 410 (upto 81912 0)) := by
                              have h := own_blk o2
                              rw [← upto_zero .u64 410 81912] at h
                              exact h
                            clear o2
                            have HB0 := Lib.hid hB
                            clear hB
                            go_loopw [38] (fun i wr => ∃ j : Nat, j ≤ 410 ∧ i = .int .i64 (j : Int) ∧ Blk wr y20.heap.size 55 (arr .u64 410 (upto 81912 j)) ∧ Below y20.heap.size y20 wr) (fun i _ => 410 - (intOf i).toNat)
                            case atStart => exact ⟨0, by omega, rfl, hZ, b_⟩
                            case round =>
                              clear hZ b_
                              obtain ⟨j, hj, rfl, hk, hC⟩ := hrel
                              by_cases hlt : j < 410
                              · have hc := hk.arr_cell hlt
                                have hf := hk.frozen j
                                go_wp2_with fail
                                go_roundw
                                case rel => exact ⟨j + 1, by omega, by go_num, by rw [← upto_set]; exact hk.set_ _ _, hC.setCell (Nat.le_refl _) _⟩
                                case measure => simp [intOf]; omega
                              · replace hj : j = 410 := by omega
                                subst hj
                                (try rw [show ((410 : Nat) : Int) = 410 from rfl])
                                have hU := rdU_410 hk
                                clear hk
                                replace RF := RF.mv hC
                                replace RX := RX.mv hC
                                replace hY := Blk.mv hY hC
                                have hB := HB0.out.trans (hC.mono HB0.out.size)
                                clear HB0 hC
                                go_wp2_with fail
                                have RC : RdC (wr.alloc (.cells #[.slice (some ⟨y20.heap.size, 0, none⟩) 410 410] 62)) (some ⟨wr.heap.size, 0, none⟩) 1 [L410] := rdC_one hU (List.length_replicate) (by omega)
                                clear hU
                                have b_ := (Below.refl wr.heap.size wr).alloc (Nat.le_refl _) (.cells #[.slice (some ⟨y20.heap.size, 0, none⟩) 410 410] 62)
                                replace RF := RF.mv b_
                                replace RX := RX.mv b_
                                replace hY := Blk.mv hY b_
                                replace hB := hB.trans (b_.mono hB.size)
                                clear b_
                                refine (good_chains _ RC (by omega) csB_410).mono ?_
                                rintro e y21 ⟨⟨A9, m9, c9, rfl⟩, b_⟩
                                replace RF := RF.mv b_
                                replace RX := RX.mv b_
                                replace hY := Blk.mv hY b_
                                replace hB := hB.trans (b_.mono hB.size)
                                clear b_
                                clear RC
                                go_wp2_with fail
                                refine (alive27_any y21).mono ?_
                                rintro e y22 ⟨rfl, b_⟩
                                replace RF := RF.mv b_
                                replace RX := RX.mv b_
                                replace hY := Blk.mv hY b_
                                replace hB := hB.trans (b_.mono hB.size)
                                clear b_
                                go_wp2_with fail
                                have HN := sameHeads_any AX fullH.length cX fullH _ 1 1 fullH _ RX RF (by decide)
                                rw [decide_eq_true (rfl : fullH = fullH)] at HN
                                refine (HN).mono ?_
                                rintro e y23 ⟨rfl, b_⟩
                                replace RF := RF.mv b_
                                replace RX := RX.mv b_
                                replace hY := Blk.mv hY b_
                                replace hB := hB.trans (b_.mono hB.size)
                                clear b_
                                clear HN
                                have k0 := (hY.cell 0).trans rfl
                                have k1 := (hY.cell 1).trans rfl
                                have k2 := (hY.cell 2).trans rfl
                                replace k0 : y23.cell? ⟨y18.heap.size, 0, none⟩ = some (.int .u8 6) := k0
                                replace k1 : y23.cell? ⟨y18.heap.size, 1, none⟩ = some (.int .i64 15) := k1
                                replace k2 : y23.cell? ⟨y18.heap.size, 2, none⟩ = some (.int .i64 5000) := k2
                                go_wp2_with fail
                                go_ret
                                exact ⟨rfl, hB⟩

end Go.Proofs.Ytldaijkcmnnjpaa
