/- Contracts and laws of a chapter that its statement of names leans on. Each states its conditions. -/
import Derived.Test.YtldaijkcmnnjpaaTab6
namespace Go.Proofs.Ytldaijkcmnnjpaa
open Go.RowKit Wire
set_option linter.unusedVariables false
/-- The conversion of bytes to a string, in a world. -/
abbrev t_CvS (A : Option Addr) (n c : Nat) (l : List UInt8) (w : World) : Prop := (convert 25 9 (.slice A n c)).run Try.prog w = .ok (.string ⟨l.toArray⟩) w
theorem t_cvS {A : Option Addr} {n : Nat} {l : List UInt8} {w : World} {B : Nat} (c : Nat) (h : RdB w B A n l) : t_CvS A n c l w := conv_to_str _ _ _ Try.underlying25 Try.underlying5 Try.underlying9 c h
theorem rdN_new (w : World) (L : List (Int × Nat)) (hf : ∀ p ∈ L, fitR p) : RdN (w.alloc (.cells (rnC L).toArray 57)) (some ⟨w.heap.size, 0, none⟩) L.length L := by
  refine ⟨⟨rnC_len L, fun h0 => ⟨_, rfl, by simp, fun j u hu => ?_⟩⟩, hf⟩
  have hadd : (⟨w.heap.size, 0, none⟩ : Addr).add j = ⟨w.heap.size, j, none⟩ := by unfold Addr.add; split <;> simp_all
  rw [hadd, (Blk.new w 57 (rnC L).toArray).cell j]
  simpa using hu
theorem rdU_new (w : World) (l : List Nat) (hf : ∀ x ∈ l, x < 18446744073709551616) : RdU (w.alloc (.cells (l.map vU).toArray 55)) (some ⟨w.heap.size, 0, none⟩) l.length l := by
  have h := reads_row w (l.map vU) 55
  rw [List.length_map] at h
  exact ⟨h.more (by simp), hf⟩
set_option maxRecDepth 100000 in
set_option maxHeartbeats 3200000 in
theorem alive8_any (w : World) :
    Calls Try.prog 31 #[] w fun e w' => e = .returned (.bool true) ∧ Below w.heap.size w w' := by
  go_enter Try.func31, Try.ntmps31
  have hB := Below.refl w.heap.size w
  have b := Ext.al w (.cells #[.int .u64 7, .int .u64 7, .int .u64 0, .int .u64 0, .int .u64 0, .int .u64 7] 55)
  have hq_ := Blk.new w 55 #[.int .u64 7, .int .u64 7, .int .u64 0, .int .u64 0, .int .u64 0, .int .u64 7]
  replace hB := hB.trans (b.mono hB.size)
  clear b
  clear hq_
  have S1 : RdU (w.alloc (.cells #[.int .u64 7, .int .u64 7, .int .u64 0, .int .u64 0, .int .u64 0, .int .u64 7] 55)) (some ⟨w.heap.size, 0, none⟩) 6 [7, 7, 0, 0, 0, 7] := rdU_new w [7, 7, 0, 0, 0, 7] (by decide)
  go_wp2_with fail
  generalize w.alloc (.cells #[.int .u64 7, .int .u64 7, .int .u64 0, .int .u64 0, .int .u64 0, .int .u64 7] 55) = w1 at *
  have H1 := make_any _ 6 6 [7, 7, 0, 0, 0, 7] _ S1 (by omega)
  rw [show mkL [7, 7, 0, 0, 0, 7] = [(0, 7), (2, 0), (5, 7)] from by decide] at H1
  rw [show mkE [7, 7, 0, 0, 0, 7] = 0 from by decide] at H1
  rw [show ([(0, 7), (2, 0), (5, 7)] : List (Int × Nat)).length = 3 from rfl] at H1
  refine (H1).mono ?_
  rintro e w2 ⟨A2, c2, rfl, o2, b⟩
  have N2 := own_rdN o2 (by intro p hp; simp at hp; rcases hp with rfl | rfl | rfl <;> exact ⟨⟨by decide, by decide⟩, by decide⟩)
  clear o2
  replace S1 := S1.mv b
  replace hB := hB.trans (b.mono hB.size)
  clear b
  clear H1
  have b := Ext.al w2 (.cells #[.int .i64 0, .int .u64 7, .int .i64 2, .int .u64 0, .int .i64 5, .int .u64 7] 57)
  have hq_ := Blk.new w2 57 #[.int .i64 0, .int .u64 7, .int .i64 2, .int .u64 0, .int .i64 5, .int .u64 7]
  replace S1 := S1.mv b
  replace N2 := N2.mv b
  replace hB := hB.trans (b.mono hB.size)
  clear b
  clear hq_
  have S2 : RdN (w2.alloc (.cells #[.int .i64 0, .int .u64 7, .int .i64 2, .int .u64 0, .int .i64 5, .int .u64 7] 57)) (some ⟨w2.heap.size, 0, none⟩) 3 [(0, 7), (2, 0), (5, 7)] := rdN_new w2 [(0, 7), (2, 0), (5, 7)] (by intro p hp; simp at hp; rcases hp with rfl | rfl | rfl <;> exact ⟨⟨by decide, by decide⟩, by decide⟩)
  go_wp2_with fail
  generalize w2.alloc (.cells #[.int .i64 0, .int .u64 7, .int .i64 2, .int .u64 0, .int .i64 5, .int .u64 7] 57) = w3 at *
  generalize w2.heap.size = g_ at *
  have H2 := encode8_any _ 3 3 [(0, 7), (2, 0), (5, 7)] 6 _ S2 (by omega)
  rw [show ecL [(0, 7), (2, 0), (5, 7)] 6 = [3, 0, 7, 2, 0, 3, 7] from by decide] at H2
  rw [show ckT [(0, 7), (2, 0), (5, 7)] 6 = 0 from by decide] at H2
  rw [show ([3, 0, 7, 2, 0, 3, 7] : List UInt8).length = 7 from rfl] at H2
  refine (H2).mono ?_
  rintro e w4 ⟨A4, c4, rfl, o4, b⟩
  have R4 := own_rd o4
  clear o4
  replace S1 := S1.mv b
  replace N2 := N2.mv b
  replace S2 := S2.mv b
  replace hB := hB.trans (b.mono hB.size)
  clear b
  clear H2
  have b := Ext.al w4 (.cells #[.int .i64 0, .int .u64 7, .int .i64 2, .int .u64 0, .int .i64 5, .int .u64 7] 57)
  have hq_ := Blk.new w4 57 #[.int .i64 0, .int .u64 7, .int .i64 2, .int .u64 0, .int .i64 5, .int .u64 7]
  replace S1 := S1.mv b
  replace N2 := N2.mv b
  replace S2 := S2.mv b
  replace R4 := R4.mv b
  replace hB := hB.trans (b.mono hB.size)
  clear b
  clear hq_
  have S3 : RdN (w4.alloc (.cells #[.int .i64 0, .int .u64 7, .int .i64 2, .int .u64 0, .int .i64 5, .int .u64 7] 57)) (some ⟨w4.heap.size, 0, none⟩) 3 [(0, 7), (2, 0), (5, 7)] := rdN_new w4 [(0, 7), (2, 0), (5, 7)] (by intro p hp; simp at hp; rcases hp with rfl | rfl | rfl <;> exact ⟨⟨by decide, by decide⟩, by decide⟩)
  go_wp2_with fail
  generalize w4.alloc (.cells #[.int .i64 0, .int .u64 7, .int .i64 2, .int .u64 0, .int .i64 5, .int .u64 7] 57) = w5 at *
  generalize w4.heap.size = g_ at *
  refine (same8_any A2 3 c2 [(0, 7), (2, 0), (5, 7)] _ 3 3 [(0, 7), (2, 0), (5, 7)] _ N2 S3 (by omega)).mono ?_
  rintro e w6 ⟨rfl, b⟩
  rw [show decide ([(0, 7), (2, 0), (5, 7)] = ([(0, 7), (2, 0), (5, 7)] : List (Int × Nat))) = true from by decide]
  replace S1 := S1.mv b
  replace N2 := N2.mv b
  replace S2 := S2.mv b
  replace R4 := R4.mv b
  replace S3 := S3.mv b
  replace hB := hB.trans (b.mono hB.size)
  clear b
  clear S1 N2 S2 S3
  have K4 := t_cvS c4 R4
  have b := Ext.al w6 (.cells #[.int .u8 3, .int .u8 0, .int .u8 7, .int .u8 2, .int .u8 0, .int .u8 3, .int .u8 7] 5)
  have hq_ := Blk.new w6 5 #[.int .u8 3, .int .u8 0, .int .u8 7, .int .u8 2, .int .u8 0, .int .u8 3, .int .u8 7]
  replace R4 := R4.mv b
  replace hB := hB.trans (b.mono hB.size)
  clear b
  clear hq_
  have R5 : Rb (w6.alloc (.cells #[.int .u8 3, .int .u8 0, .int .u8 7, .int .u8 2, .int .u8 0, .int .u8 3, .int .u8 7] 5)) (some ⟨w6.heap.size, 0, none⟩) 7 [3, 0, 7, 2, 0, 3, 7] := reads_bytes w6 [3, 0, 7, 2, 0, 3, 7] _
  have K5 := t_cvS 7 R5
  generalize ([3, 0, 7, 2, 0, 3, 7] : List UInt8) = bl at K4 K5
  clear R4 R5
  have b := Ext.al (w6.alloc (.cells #[.int .u8 3, .int .u8 0, .int .u8 7, .int .u8 2, .int .u8 0, .int .u8 3, .int .u8 7] 5)) (.cells #[.int .i64 1, .int .u64 0] 57)
  have hq_ := Blk.new (w6.alloc (.cells #[.int .u8 3, .int .u8 0, .int .u8 7, .int .u8 2, .int .u8 0, .int .u8 3, .int .u8 7] 5)) 57 #[.int .i64 1, .int .u64 0]
  replace hB := hB.trans (b.mono hB.size)
  clear b
  clear hq_
  have S4 : RdN ((w6.alloc (.cells #[.int .u8 3, .int .u8 0, .int .u8 7, .int .u8 2, .int .u8 0, .int .u8 3, .int .u8 7] 5)).alloc (.cells #[.int .i64 1, .int .u64 0] 57)) (some ⟨(w6.alloc (.cells #[.int .u8 3, .int .u8 0, .int .u8 7, .int .u8 2, .int .u8 0, .int .u8 3, .int .u8 7] 5)).heap.size, 0, none⟩) 1 [(1, 0)] := rdN_new (w6.alloc (.cells #[.int .u8 3, .int .u8 0, .int .u8 7, .int .u8 2, .int .u8 0, .int .u8 3, .int .u8 7] 5)) [(1, 0)] (by intro p hp; simp at hp; rcases hp with rfl <;> exact ⟨⟨by decide, by decide⟩, by decide⟩)
  rw [alloc_size] at S4
  go_wp2_with fail
  generalize (w6.alloc (.cells #[.int .u8 3, .int .u8 0, .int .u8 7, .int .u8 2, .int .u8 0, .int .u8 3, .int .u8 7] 5)).alloc (.cells #[.int .i64 1, .int .u64 0] 57) = w7 at *
  clear K4 K5
  have H3 := check8_any _ 1 1 [(1, 0)] 6 _ S4 (by omega)
  rw [show ckT [(1, 0)] 6 = 8 from by decide] at H3
  refine (H3).mono ?_
  rintro e w8 ⟨rfl, b⟩
  replace S4 := S4.mv b
  replace hB := hB.trans (b.mono hB.size)
  clear b
  clear H3
  have b := Ext.al w8 (.cells #[.int .i64 0, .int .u64 7, .int .i64 2, .int .u64 7] 57)
  have hq_ := Blk.new w8 57 #[.int .i64 0, .int .u64 7, .int .i64 2, .int .u64 7]
  replace S4 := S4.mv b
  replace hB := hB.trans (b.mono hB.size)
  clear b
  clear hq_
  have S5 : RdN (w8.alloc (.cells #[.int .i64 0, .int .u64 7, .int .i64 2, .int .u64 7] 57)) (some ⟨w8.heap.size, 0, none⟩) 2 [(0, 7), (2, 7)] := rdN_new w8 [(0, 7), (2, 7)] (by intro p hp; simp at hp; rcases hp with rfl | rfl <;> exact ⟨⟨by decide, by decide⟩, by decide⟩)
  go_wp2_with fail
  generalize w8.alloc (.cells #[.int .i64 0, .int .u64 7, .int .i64 2, .int .u64 7] 57) = w9 at *
  generalize w8.heap.size = g_ at *
  have H4 := check8_any _ 2 2 [(0, 7), (2, 7)] 6 _ S5 (by omega)
  rw [show ckT [(0, 7), (2, 7)] 6 = 8 from by decide] at H4
  refine (H4).mono ?_
  rintro e w10 ⟨rfl, b⟩
  replace S4 := S4.mv b
  replace S5 := S5.mv b
  replace hB := hB.trans (b.mono hB.size)
  clear b
  clear H4
  go_wp2_with fail
  go_ret
  exact ⟨rfl, hB⟩

end Go.Proofs.Ytldaijkcmnnjpaa
