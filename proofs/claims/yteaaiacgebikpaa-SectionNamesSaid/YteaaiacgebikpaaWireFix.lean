/- Contracts and laws of another chapter that this one leans on. Each states its conditions. -/
import Derived.Test.YteaaiacgebikpaaChecked
import Derived.Test.YteaaiacgebikpaaMem
import Derived.Test.YteaaiacgebikpaaSlice
import Derived.Test.YteaaiacgebikpaaArr
import Derived.Test.YteaaiacgebikpaaRegion
import Derived.Test.YteaaiacgebikpaaRet
import Derived.Test.YteaaiacgebikpaaRbb
import Derived.Test.YteaaiacgebikpaaWireFixed
namespace Go.Proofs.Yteaaiacgebikpaa
open Go.RowKit Wire
set_option linter.unusedVariables false

theorem arr_reads {w : World} {g n k : Nat} {t : TypeId} {f : Nat → Nat} (hb : Blk w g t (arr .u8 8 f)) (hk : k ≤ 8) (hf : ∀ j, j < k → f j = n / 256 ^ j % 256) : RdB w (g + 1) (some ⟨g, 0, none⟩) k (ltl k n) := by
  refine ⟨by simp [ltl_len], fun h0 => ⟨_, rfl, Nat.lt_succ_self _, fun j u hu => ?_⟩⟩
  have hj : j < k := by
    have := (List.getElem?_eq_some_iff.1 hu).1
    simpa [ltl_len] using this
  have hadd : (⟨g, 0, none⟩ : Addr).add j = ⟨g, j, none⟩ := by unfold Addr.add; split <;> simp_all
  rw [hadd, hb.arr_cell (show j < 8 by omega), ← hu, List.getElem?_map, ltl_get hj]
  simp [b8_ofNat (x := n / 256 ^ j % 256) (by omega), hf j hj]
theorem fx_wide {n : Nat} {k : Nat} (hn : n < 18446744073709551616) (hk : k = 1 ∨ k = 2 ∨ k = 4 ∨ k = 8) : fxB n (k : Int) = decide (n / 2 ^ (8 * k - 1) / 2 = 0) := by
  rcases hk with rfl | rfl | rfl | rfl
  all_goals
    simp [fxB, wdB]
    omega
set_option maxRecDepth 100000 in
set_option maxHeartbeats 1600000 in
theorem fixed_any (n : Nat) (a : Int) (ha : -9223372036854775808 ≤ a ∧ a ≤ 9223372036854775807) (hn : n < 18446744073709551616) (w : World) :
    Calls Try.prog 46 #[.int .u64 (n : Int), .int .i64 a] w fun e w' => ∃ A c, e = .returned (.tuple #[.slice A (fxL n a).length c, .int .i64 (fxE n a)]) ∧
      w'.ownsRow w.heap.size 5 1 (.slice A (fxL n a).length c) (fxL n a).length ((fxL n a).map b8) ∧ Below w.heap.size w w' := by
  cases hw : wdB a
  · obtain ⟨hL, hE⟩ := fx_no (n := n) (a := a) (by simp [fxB, hw])
    rw [hL, hE]
    have HW := Lib.hid hw
    clear hw hL hE
    go_enter Try.func46, Try.ntmps46
    go_wp2_with (go_at_call 50; refine (wide_any _ _).mono ?_; rintro e w2 ⟨rfl, rfl⟩; rw [HW.out])
    go_ret2
    exact ⟨none, 0, rfl, World.ownsRow_nil _ _ _ _, Below.refl _ _⟩
  · have HW := Lib.hid hw
    obtain ⟨k, hk, rfl⟩ : ∃ k : Nat, (k = 1 ∨ k = 2 ∨ k = 4 ∨ k = 8) ∧ a = (k : Int) := by
      rcases wdB_of hw with rfl | rfl | rfl | rfl
      · exact ⟨1, by simp, rfl⟩
      · exact ⟨2, by simp, rfl⟩
      · exact ⟨4, by simp, rfl⟩
      · exact ⟨8, by simp, rfl⟩
    clear hw ha
    have hfx := fx_wide hn hk
    have hk8 : 1 ≤ k ∧ k ≤ 8 := by omega
    by_cases hbig : n / 2 ^ (8 * k - 1) / 2 = 0
    · have hB : fxB n (k : Int) = true := by rw [hfx]; simp [hbig]
      obtain ⟨hL, hE⟩ := fx_yes hB
      rw [hL, hE, Int.toNat_natCast, ltl_len]
      have hd : ((n : Int) / 2 ^ (8 * k - 1) / 2 != 0) = false := by
        have : ((n : Int) / 2 ^ (8 * k - 1) / 2) = ((n / 2 ^ (8 * k - 1) / 2 : Nat) : Int) := by simp
        rw [this, hbig]; rfl
      have HN := Lib.hid hn
      clear hL hE hB hfx hbig hn
      go_enter Try.func46, Try.ntmps46
      go_wp2_with (go_at_call 50; refine (wide_any _ _).mono ?_; rintro e w2 ⟨rfl, rfl⟩; rw [HW.out])
      go_loopw [7, 20] (fun x i wr => ∃ (j : Nat), j ≤ 8 ∧ i = .int .i64 (j : Int) ∧ Blk wr w.heap.size 80 (arr .u8 8 fun q => if q < j then n / 256 ^ q % 256 else 0) ∧ Below w.heap.size w wr) (fun _ i _ => 8 - (intOf i).toNat)
      case atStart => exact ⟨0, by omega, rfl, Blk.new w _ _, (Below.refl _ _).alloc (Nat.le_refl _) _⟩
      case round =>
        obtain ⟨j, hj, rfl, hb, hB⟩ := hrel
        by_cases hlt : j < 8
        · have hP : (n : Int) / 2 ^ (8 * j) % 256 = ((n / 256 ^ j % 256 : Nat) : Int) := by
            have h1 : (256 : Nat) ^ j = 2 ^ (8 * j) := by rw [Nat.pow_mul]
            rw [h1]
            simp
          have HP := Lib.hid hP
          clear hP
          have hc := hb.arr_cell hlt
          rw [if_neg (Nat.lt_irrefl j)] at hc
          have hf := hb.frozen j
          go_wp2_with fail
          have hb2 := hb.set_ j (.int .u8 ((n / 256 ^ j % 256 : Nat) : Int))
          rw [arr_set, arr_congr (g := fun q => if q < j + 1 then n / 256 ^ q % 256 else 0) (fun q hq => by
            by_cases h1 : q = j
            · subst h1; simp
            · rw [if_neg h1]
              by_cases h2 : q < j
              · rw [if_pos h2, if_pos (by omega)]
              · rw [if_neg h2, if_neg (by omega)])] at hb2
          go_roundw
          case rel => exact ⟨j + 1, by omega, by go_num, by rw [HP.out]; exact hb2, hB.setCell (Nat.le_refl _) _⟩
          case measure => simp [intOf]; omega
        · obtain rfl : j = 8 := by omega
          have HR := Lib.hid (arr_reads (n := n) (k := k) hb hk8.2 (fun j hj => by rw [if_pos (show j < 8 by omega)]))
          have hglt := hb.lt
          go_wp2_with (first
            | (refine wpList_slice_arr rfl 80 (.tmp 6) (.tmp 32) rfl Try.underlying80 (by intro w; rfl) w.heap.size rfl k rfl hk8.2 ?_)
            | (at_builtin; refine wpList_app rfl (.tmp 31) (.tmp 33) _ rfl sl8 w.heap.size _ 0 [] rfl (own_empty wr hB.size _ _) _ _ k 8 ((ltl k n).map b8) rfl (HR.out.alloc (by omega) _) (b8_one _) (by omega) (by have := hB.size; simp; omega) ?_; intro A2 c2 w2 hown2 hg2 hb2 hc2))
          go_ret2
          rw [Nat.zero_add] at *
          exact ⟨A2, c2, rfl, hown2, (hB.alloc hB.size _).trans hb2⟩
    · have hB : fxB n (k : Int) = false := by rw [hfx]; simp [hbig]
      obtain ⟨hL, hE⟩ := fx_no hB
      rw [hL, hE]
      have hd : ((n : Int) / 2 ^ (8 * k - 1) / 2 != 0) = true := by
        have : ((n : Int) / 2 ^ (8 * k - 1) / 2) = ((n / 2 ^ (8 * k - 1) / 2 : Nat) : Int) := by simp
        rw [this, bne_iff_ne]; omega
      have HN := Lib.hid hn
      clear hL hE hB hfx hbig hn
      go_enter Try.func46, Try.ntmps46
      go_wp2_with (go_at_call 50; refine (wide_any _ _).mono ?_; rintro e w2 ⟨rfl, rfl⟩; rw [HW.out])
      go_ret2
      exact ⟨none, 0, rfl, World.ownsRow_nil _ _ _ _, Below.refl _ _⟩
end Go.Proofs.Yteaaiacgebikpaa
