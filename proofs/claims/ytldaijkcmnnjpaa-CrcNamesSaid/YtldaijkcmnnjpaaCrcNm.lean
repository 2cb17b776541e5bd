/- What CrcNames leans on. Each states its conditions. -/
import Derived.Test.YtldaijkcmnnjpaaCrcPieces
import Derived.Test.YtldaijkcmnnjpaaCrcPatch
import Derived.Test.YtldaijkcmnnjpaaTb4
import Derived.Test.YtldaijkcmnnjpaaWk
import Derived.BigQuiet
namespace Go.Proofs.Ytldaijkcmnnjpaa
open Go.RowKit Crc
set_option linter.unusedVariables false

set_option maxRecDepth 100000 in
set_option maxHeartbeats 3200000 in
theorem pieces_bad (f : Nat → Nat) (hb : eqn 256 f el = false) (v : Value) (w : World) :
    Calls Try.prog 12 #[.agg (arr .u32 256 f), v] w fun e w' => e = .returned (.tuple #[.int .u32 0, .int .i64 8]) ∧ Below w.heap.size w w' := by
  have HB := Lib.hid hb
  clear hb
  go_enter Try.func12, Try.ntmps12
  go_wp2_with (refine wpList_load_blk rfl 23 _ rfl w.heap.size rfl (Blk.new w _ _) Try.underlying23 rfl (tab_sized _) ?_)
  refine (check_bad f HB.out _).mono ?_
  rintro e w1 ⟨rfl, hb1⟩
  go_wp2
  go_ret2
  exact ⟨rfl, ((Below.refl _ _).alloc (Nat.le_refl _) _).trans (hb1.mono (by simp))⟩

set_option maxRecDepth 100000 in
set_option maxHeartbeats 3200000 in
theorem join_bad (f : Nat → Nat) (hb : eqn 256 f el = false) (v1 v2 v3 : Value) (w : World) :
    Calls Try.prog 13 #[.agg (arr .u32 256 f), v1, v2, v3] w fun e w' => e = .returned (.tuple #[.int .u32 0, .int .i64 8]) ∧ Below w.heap.size w w' := by
  have HB := Lib.hid hb
  clear hb
  go_enter Try.func13, Try.ntmps13
  go_wp2_with (refine wpList_load_blk rfl 23 _ rfl w.heap.size rfl (Blk.new w _ _) Try.underlying23 rfl (tab_sized _) ?_)
  refine (check_bad f HB.out _).mono ?_
  rintro e w1 ⟨rfl, hb1⟩
  go_wp2
  go_ret2
  exact ⟨rfl, ((Below.refl _ _).alloc (Nat.le_refl _) _).trans (hb1.mono (by simp))⟩

set_option maxRecDepth 100000 in
set_option maxHeartbeats 3200000 in
theorem join_neg (v1 v2 : Value) (w : World) :
    Calls Try.prog 13 #[.agg (arr .u32 256 el), v1, v2, .int .i64 (-1)] w fun e w' => e = .returned (.tuple #[.int .u32 0, .int .i64 2]) ∧ Below w.heap.size w w' := by
  go_enter Try.func13, Try.ntmps13
  go_wp2_with (refine wpList_load_blk rfl 23 _ rfl w.heap.size rfl (Blk.new w _ _) Try.underlying23 rfl (tab_sized _) ?_)
  refine (check_ok el (eqn_refl _ _) _).mono ?_
  rintro e w1 ⟨rfl, hb1⟩
  go_wp2
  go_ret2
  exact ⟨rfl, ((Below.refl _ _).alloc (Nat.le_refl _) _).trans (hb1.mono (by simp))⟩

set_option maxRecDepth 100000 in
set_option maxHeartbeats 3200000 in
theorem join_big (v1 v2 : Value) (w : World) :
    Calls Try.prog 13 #[.agg (arr .u32 256 el), v1, v2, .int .i64 200001] w fun e w' => e = .returned (.tuple #[.int .u32 0, .int .i64 2]) ∧ Below w.heap.size w w' := by
  go_enter Try.func13, Try.ntmps13
  go_wp2_with (refine wpList_load_blk rfl 23 _ rfl w.heap.size rfl (Blk.new w _ _) Try.underlying23 rfl (tab_sized _) ?_)
  refine (check_ok el (eqn_refl _ _) _).mono ?_
  rintro e w1 ⟨rfl, hb1⟩
  go_wp2
  go_ret2
  exact ⟨rfl, ((Below.refl _ _).alloc (Nat.le_refl _) _).trans (hb1.mono (by simp))⟩

theorem m32_zero : (Try.prog.info? 111).map (fun i => (i.zero, i.size)) = some (some (.agg (arr .u32 32 fun _ => 0)), 32) := by kernel_rfl
theorem pow_32 {k : Nat} (h : k < 32) : 2 ^ k < 4294967296 := by
  have : 2 ^ k < 2 ^ 32 := Nat.pow_lt_pow_right (by omega) h
  simpa using this
theorem wrap_pow {k : Nat} (h : k < 32) : IntKind.u32.wrap ((2 : Int) ^ k) = ((2 ^ k : Nat) : Int) := by
  have h2 := pow_32 h
  rw [show ((2 : Int) ^ k) = ((2 ^ k : Nat) : Int) from by rw [Int.natCast_pow]; rfl]
  generalize 2 ^ k = m at h2
  rw [IntKind.wrap_u32']
  omega
set_option maxRecDepth 100000 in
set_option maxHeartbeats 3200000 in
theorem join_77 (w : World) :
    Calls Try.prog 13 #[.agg (arr .u32 256 el), .int .u32 77, .int .u32 0, .int .i64 0] w fun e w' => e = .returned (.tuple #[.int .u32 77, .int .i64 0]) ∧ Below w.heap.size w w' := by
  have HZ := Lib.hid (zero_of_info m32_zero).1
  go_enter Try.func13, Try.ntmps13
  go_wp2_with (refine wpList_load_blk rfl 23 _ rfl w.heap.size rfl (Blk.new w _ _) Try.underlying23 rfl (tab_sized _) ?_)
  refine (check_ok el (eqn_refl _ _) _).mono ?_
  rintro e w1 ⟨rfl, hb1⟩
  have hT := (Blk.new w 23 (arr .u32 256 el)).below hb1 (by simp)
  have hB : Below w.heap.size w w1 := ((Below.refl _ _).alloc (Nat.le_refl _) _).trans (hb1.mono (by simp))
  have hlt1 : w.heap.size < w1.heap.size := hT.lt
  clear hb1
  go_wp2_with (refine wpList_alloc_big rfl 111 rfl _ HZ.out ?_)
  have hM := Blk.new w1 111 (arr .u32 32 fun _ => 0)
  replace hT := hT.alloc (.cells (arr .u32 32 fun _ => 0) 111)
  replace hB := hB.alloc hB.size (.cells (arr .u32 32 fun _ => 0) 111)
  go_loopw [26] (fun i wr => ∃ (k : Nat) (f : Nat → Nat), k ≤ 32 ∧ i = .int .i64 (k : Int) ∧ Blk wr w1.heap.size 111 (arr .u32 32 f) ∧ Blk wr w.heap.size 23 (arr .u32 256 el) ∧ Below w.heap.size w wr) (fun i _ => 32 - (intOf i).toNat)
  case atStart => exact ⟨0, fun _ => 0, by omega, rfl, hM, hT, hB⟩
  case round =>
    clear hM hT hB
    obtain ⟨k, f, hk, rfl, hM, hT, hB⟩ := hrel
    by_cases hlt : k < 32
    · go_wp2_with fail
      refine bx_go (w1.heap.size) (by kernel_rfl) (fun hQ x b => ?_)
      replace hM := hM.below b hM.lt
      replace hT := hT.below b hT.lt
      replace hB := hB.trans (b.mono hB.size)
      clear b
      have hlx := hT.lt
      have XT : ∀ W, BelowX x.heap.size w1.heap.size x W → Blk W w.heap.size 23 (arr .u32 256 el) := fun W h => hT.belowx h hlx (by omega)
      refine bx_take (i := 0) (oi := ?oij0) (v := ?vj0) ?hij0 (by kernel_rfl) (by kernel_rfl) (by kernel_rfl) hQ ?hwj0 ?hyj0 ?restj0
      case hij0 => simp only [List.getElem?_toArray, List.getElem?_cons_zero]; rfl
      case hwj0 => rfl
      case hyj0 => intro W hW; go_simp; with_reducible rfl
      simp only [Act.put, List.setIfInBounds_toArray, List.set_cons_zero, List.set_cons_succ]
      refine bx_take (i := 1) (oi := ?oij1) (v := .agg (arr .u32 256 el)) ?hij1 (by kernel_rfl) (by kernel_rfl) (by kernel_rfl) hQ ?hwj1 ?hyj1 ?restj1
      case hij1 => simp only [List.getElem?_toArray, List.getElem?_cons_zero, List.getElem?_cons_succ]; rfl
      case hwj1 => rfl
      case hyj1 => intro W hW; exact run_ld 23 (.tmp 4) (by rfl) w.heap.size (by rfl) (XT W hW) Try.underlying23 rfl (tab_sized _)
      simp only [Act.put, List.setIfInBounds_toArray, List.set_cons_zero, List.set_cons_succ]
      refine bx_take (i := 2) (oi := ?oij2) (v := ?vj2) ?hij2 (by kernel_rfl) (by kernel_rfl) (by kernel_rfl) hQ ?hwj2 ?hyj2 ?restj2
      case hij2 => simp only [List.getElem?_toArray, List.getElem?_cons_zero, List.getElem?_cons_succ]; rfl
      case hwj2 => rfl
      case hyj2 => intro W hW; go_simp; with_reducible rfl
      simp only [Act.put, List.setIfInBounds_toArray, List.set_cons_zero, List.set_cons_succ]
      refine bx_take (i := 3) (oi := ?oij3) (v := ?vj3) ?hij3 (by kernel_rfl) (by kernel_rfl) (by kernel_rfl) hQ ?hwj3 ?hyj3 ?restj3
      case hij3 => simp only [List.getElem?_toArray, List.getElem?_cons_zero, List.getElem?_cons_succ]; rfl
      case hwj3 => rfl
      case hyj3 => intro W hW; go_simp; with_reducible rfl
      simp only [Act.put, List.setIfInBounds_toArray, List.set_cons_zero, List.set_cons_succ]
      refine bx_step (i := 4) (oi := ?oij4) (by kernel_rfl) ?hij4 ?hwj4 (fun K hK => ?_)
      case hij4 => simp only [List.getElem?_toArray, List.getElem?_cons_zero, List.getElem?_cons_succ]; rfl
      case hwj4 => rfl
      have hB1 := hB.alloc hB.size (.cells #[.int .u8 0] 5); have RL : Rb (x.alloc (.cells #[.int .u8 0] 5)) (some ⟨x.heap.size, 0, none⟩) 1 [0] := reads_bytes x [0] 5; have hMa := hM.alloc (.cells #[.int .u8 0] 5); have hTa := hT.alloc (.cells #[.int .u8 0] 5); have bx := BelowX.of (Ext.al x (.cells #[.int .u8 0] 5)) (w1.heap.size); go_simp; refine hK _ _ bx ?_; clear bx; have hsz1 : x.heap.size ≤ (x.alloc (.cells #[.int .u8 0] 5)).heap.size := (by simp); generalize x.alloc (.cells #[.int .u8 0] 5) = x1 at *
      try simp only [Act.put, List.setIfInBounds_toArray, List.set_cons_zero, List.set_cons_succ]
      refine bx_step (i := 5) (oi := ?oij5) (by kernel_rfl) ?hij5 ?hwj5 (fun K hK => ?_)
      case hij5 => simp only [List.getElem?_toArray, List.getElem?_cons_zero, List.getElem?_cons_succ]; rfl
      case hwj5 => rfl
      go_simp
      rw [wrap_pow hlt]; refine (steps_any el (fun i h => el_lt (by omega)) (2 ^ k) (pow_32 hlt) (some ⟨x.heap.size, 0, none⟩) 1 1 [0] x1 RL (by omega)).mono ?_; rintro e x2 ⟨rfl, b2⟩; have hM2 := hMa.below b2 hMa.lt; have hT2 := hTa.below b2 hTa.lt; have hB2 := hB1.trans (b2.mono hB1.size); refine hK _ _ (BelowX.of (Below.mono b2 (by omega)) _) ?_
      try simp only [Act.put, List.setIfInBounds_toArray, List.set_cons_zero, List.set_cons_succ]
      refine bx_take (i := 6) (oi := ?oij6) (v := ?vj6) ?hij6 (by kernel_rfl) (by kernel_rfl) (by kernel_rfl) hQ ?hwj6 ?hyj6 ?restj6
      case hij6 => simp only [List.getElem?_toArray, List.getElem?_cons_zero, List.getElem?_cons_succ]; rfl
      case hwj6 => rfl
      case hyj6 => intro W hW; go_simp; with_reducible rfl
      simp only [Act.put, List.setIfInBounds_toArray, List.set_cons_zero, List.set_cons_succ]
      refine bx_step (i := 7) (oi := ?oij7) (by kernel_rfl) ?hij7 ?hwj7 (fun K hK => ?_)
      case hij7 => simp only [List.getElem?_toArray, List.getElem?_cons_zero, List.getElem?_cons_succ]; rfl
      case hwj7 => rfl
      have hc := hM2.arr_cell hlt; have hf := hM2.frozen k; go_simp; have hM3 := hM2.set_ k (.int .u32 ((stsf el (2 ^ k) [0] : Nat) : Int)); rw [arr_set] at hM3; have hT3 := hT2.far (p := ⟨w1.heap.size, k, none⟩) (by simp <;> omega) (.int .u32 ((stsf el (2 ^ k) [0] : Nat) : Int)); have hB3 := hB2.setCell (p := ⟨w1.heap.size, k, none⟩) (by simp <;> omega) (.int .u32 ((stsf el (2 ^ k) [0] : Nat) : Int)); refine hK _ _ ((BelowX.refl _ _ _).set_ _ _) ?_; generalize (x2.setCell ⟨w1.heap.size, k, none⟩ (.int .u32 ((stsf el (2 ^ k) [0] : Nat) : Int))) = x3 at *
      try simp only [Act.put, List.setIfInBounds_toArray, List.set_cons_zero, List.set_cons_succ]
      refine wpAnyH_done (by kernel_rfl) ?_ _
      simp only [NoP]
      clear XT
      go_wp2_with fail
      go_roundw
      case rel => exact ⟨k + 1, _, by omega, by go_num, hM3, hT3, hB3⟩
      case measure => simp [intOf]; omega
    · replace hk : k = 32 := by omega
      subst hk
      (try rw [show ((32 : Nat) : Int) = 32 from rfl])
      obtain ⟨we, hwe⟩ : ∃ x, x = wr := ⟨_, rfl⟩
      rw [← hwe] at hB ⊢
      clear hwe hM hT
      go_wp2_with fail
      go_loopw [1, 3] (fun a n wr => a = .int .u32 77 ∧ n = .int .i64 0 ∧ wr = we) (fun _ _ _ => 0)
      case atStart => exact ⟨rfl, rfl, rfl⟩
      case round =>
        obtain ⟨rfl, rfl, rfl⟩ := hrel
        go_wp2
        go_ret2
        exact ⟨rfl, hB⟩

end Go.Proofs.Ytldaijkcmnnjpaa
