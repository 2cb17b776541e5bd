/- The walk of CrcPatches: it returns true for every two checksums and four bytes, and writes nothing that was there. -/
import Derived.Test.YtjdoaoilfaligaaCrcLaw
import Derived.Test.YtjdoaoilfaligaaCrcPatch
namespace Go.Proofs.Ytjdoaoilfaligaa
open Go.RowKit Crc
set_option linter.unusedVariables false

theorem Blk.reads8 {w : World} {g : Nat} {t : TypeId} {n : Nat} {f : Nat → Nat} (h : Blk w g t (arr .u8 n f)) (hf : ∀ i, i < n → f i < 256) : Rb w (some ⟨g, 0, none⟩) n (bys n f) := by
  refine ⟨by simp [bys], fun _ => ⟨_, rfl, h.lt, fun j u hu => ?_⟩⟩
  have hj : j < n := by
    have := (List.getElem?_eq_some_iff.1 hu).1
    simpa [bys] using this
  have hadd : (⟨g, 0, none⟩ : Addr).add j = ⟨g, j, none⟩ := by unfold Addr.add; split <;> simp_all
  rw [hadd, h.arr_cell hj, ← hu]
  simp [bys, hj]
  unfold b8
  rw [ofNat_toNat (hf j hj)]

set_option maxRecDepth 100000 in
set_option maxHeartbeats 1600000 in
theorem crcPatches_walk (w : World) (s : Nat) (hs : s < 4294967296) (q : Nat) (hq : q < 4294967296) (f : Nat → Nat) (hf : ∀ j, j < 4 → f j < 256) :
    Calls Try.prog 7 #[.int .u32 (s : Int), .int .u32 (q : Int), .agg (arr .u8 4 f)] w fun e w' => e = .returned (.bool true) ∧ Below w.heap.size w w' := by
  have HZ := Lib.hid (zero_of_info tab_zero).1
  have HZ4 := Lib.hid (zero_of_info a4_zero).1
  go_enter Try.func7, Try.ntmps7
  go_wp2_with fail
  refine (table_any _).mono ?_
  rintro e w1 ⟨rfl, hb1⟩
  have hk5 := ((Blk.new w 36 (arr .u8 4 f)).below hb1 (by simp)).alloc (.cells (arr .u32 256 el) 25)
  have hk7 := Blk.new w1 25 (arr .u32 256 el)
  have hB1 := (((Below.refl w.heap.size w).alloc (Nat.le_refl _) (.cells (arr .u8 4 f) 36)).trans (hb1.mono (by simp)))
  have hB2 := hB1.alloc hB1.size (.cells (arr .u32 256 el) 25)
  clear hB1 hb1
  go_wp2_with (first
    | (refine wpList_alloc_big rfl 25 rfl _ HZ.out ?_)
    | (refine wpList_store_new rfl 25 _ _ rfl w1 rfl _ (arr .u32 256 el) rfl (tab_sized _) (by rw [arr_size, arr_size]) (arr_one _ _ _) ?_)
    | (refine wpList_load_blk rfl 25 (.tmp 7) rfl w1.heap.size rfl hk7 Try.underlying25 rfl (tab_sized _) ?_))
  refine (patch_ok s q hs hq _).mono ?_
  rintro e w2 ⟨rfl, hb2⟩
  have hk5 := (hk5.below hb2 hk5.lt).alloc (.cells (arr .u8 4 (pat s q)) 36)
  have hk7 := (hk7.below hb2 hk7.lt).alloc (.cells (arr .u8 4 (pat s q)) 36)
  have hk8 := Blk.new w2 36 (arr .u8 4 (pat s q))
  have hB3 := hB2.trans (hb2.mono hB2.size)
  have hB4 := hB3.alloc hB3.size (.cells (arr .u8 4 (pat s q)) 36)
  clear hb2 hB2 hB3
  go_wp2_with (first
    | (refine wpList_alloc_big rfl 36 rfl _ HZ4.out ?_)
    | (refine wpList_store_new rfl 36 _ _ rfl w2 rfl _ (arr .u8 4 (pat s q)) rfl (a4_sized _) (by rw [arr_size, arr_size]) (arr_one _ _ _) ?_))
  have hu : Try.prog.underlying 25 = some (.array 256 22) := Try.underlying25
  have hi : (Try.prog.info? 25).map (·.size) = some (arr .u32 256 el).toList.length := by rw [Array.length_toList]; exact tab_sized el
  have V1 := Lib.hid (show nxtV true 4 s (bys 4 (pat s q)) = q from by simp [nxtV]; exact patch_right s q hq)
  have V2 := Lib.hid (show nxtV true 4 s (bys 4 f) = nxt s (bys 4 f) from by simp [nxtV])
  have VE := Lib.hid (show nxtE true 4 = 0 from by simp [nxtE])
  generalize w2.alloc (.cells (arr .u8 4 (pat s q)) 36) = w3 at *
  go_region_held3 (fun w' => w'.rangeAt w1.heap.size 0 (arr .u32 256 el).toList ∧ Below w3.heap.size w3 w') (first | (with_reducible exact ⟨hk7.drew.rangeL, (Below.refl _ _).drew⟩) | (with_reducible exact ⟨(hk7.below_drew hb4).rangeL, below_of_drew hb4⟩)) ((go_at_call 13; refine (next_all el true (eqn_refl _ _) s hs (some ⟨w2.heap.size, 0, none⟩) 4 4 (bys 4 (pat s q)) _ (hk8.drew.reads8 (fun i _ => pat_lt s q i)) (by omega)).mono ?_; rintro e w4 ⟨rfl, hb4⟩; rw [V1.out, VE.out]))
  have hB5 := hB4.trans ((below_of_drew hb4).mono hB4.size)
  have hk5 := hk5.below_drew hb4
  have hk7 := hk7.below_drew hb4
  have hk8 := hk8.below_drew hb4
  clear hb4 hB4
  go_wp2_with fail
  go_region_held3 (fun w' => w'.rangeAt w1.heap.size 0 (arr .u32 256 el).toList ∧ Below w4.heap.size w4 w') (first | (with_reducible exact ⟨hk7.drew.rangeL, (Below.refl _ _).drew⟩) | (with_reducible exact ⟨(hk7.below_drew hb6).rangeL, below_of_drew hb6⟩)) ((go_at_call 13; refine (next_all el true (eqn_refl _ _) s hs (some ⟨w.heap.size, 0, none⟩) 4 4 (bys 4 f) _ (hk5.drew.reads8 hf) (by omega)).mono ?_; rintro e w6 ⟨rfl, hb6⟩; rw [V2.out, VE.out]))
  have hB6 := hB5.trans ((below_of_drew hb6).mono hB5.size)
  have hk5 := hk5.below_drew hb6
  have hk8 := hk8.below_drew hb6
  clear hb6 hB5
  have heq : ∀ W, (binOp .eql 36 (.agg (arr .u8 4 f)) (.agg (arr .u8 4 (pat s q)))).run Try.prog W = .ok (.bool (eqn 4 f (pat s q))) W := fun W => by
    rw [run_eql_arr W _ _ .u8 4 Try.underlying36 Try.underlying5 u8_size]
  have hlast : ((nxt s (bys 4 f) : Int) == (q : Int)) = eqn 4 f (pat s q) := by
    rw [Bool.eq_iff_iff, eqn_true, ← patch_only s q hq f hf]; simp; omega
  generalize eqn 4 f (pat s q) = b at *
  go_wp2_with (first
    | (refine wpList_load_blk rfl 36 (.tmp 5) rfl w.heap.size rfl hk5 Try.underlying36 rfl (a4_sized _) ?_)
    | (refine wpList_load_blk rfl 36 (.tmp 8) rfl w2.heap.size rfl hk8 Try.underlying36 rfl (a4_sized _) ?_)
    | (go_at_call 17; refine (alive_any _).mono ?_; rintro e w7 ⟨rfl, hb7⟩))
  go_ret
  exact ⟨rfl, hB6.trans (hb7.mono hB6.size)⟩
end Go.Proofs.Ytjdoaoilfaligaa
