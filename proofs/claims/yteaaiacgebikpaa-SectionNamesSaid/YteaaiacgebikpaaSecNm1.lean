/- The contract of told. It states its conditions. -/
import Derived.Test.YteaaiacgebikpaaSecP
import Derived.Test.YteaaiacgebikpaaSec11
import Derived.Test.YteaaiacgebikpaaSec5
namespace Go.Proofs.Yteaaiacgebikpaa
open Go.RowKit Wire Crc
set_option linter.unusedVariables false

theorem b8_next (x : UInt8) : b8 (x + 1) = .int .u8 (((x.toNat : Int) + 1) % 256) := by
  unfold b8
  rw [UInt8.toNat_add]
  congr 1

set_option maxRecDepth 100000 in
set_option maxHeartbeats 1600000 in
theorem told_none (A : Option Addr) (N c : Nat) (l : List UInt8) (n : Nat) (hn : n ≤ N) (want : Int) (w : World) (hr : Rb w A N l) (hN : N ≤ 1000) (hc : N ≤ c) :
    Calls Try.prog 25 #[.slice A N c, .int .i64 (n : Int), .int .i64 (-1), .int .i64 want] w fun e w' => e = .returned (.bool ((redS (l.take n)).2 == want)) ∧ Below w.heap.size w w' := by
  have HR := Lib.hid hr
  have hl := hr.len8

  clear hr 
  have KS : ∀ W, (Instr.slice 22 (.slice A N c) none (some (.int .i64 (n : Int))) none).run Try.prog W = .ok (.slice (sA A c 0) n c) W := fun W => sl5_h A N c n rfl (by omega) W
  have oe := own_empty w (Nat.le_refl _) 5 1
  have hE := (Below.refl w.heap.size w).alloc (Nat.le_refl _) (.cells #[] 5)
  have RE0 : Rb w (sA A c 0) n (l.take n) := by
    have := sub_reads (c := c) (i := 0) (v := n) HR.out (by omega) hc
    simpa using this
  have RE := RE0.mv hE
  go_enter Try.func25, Try.ntmps25
  go_wp2_with (at_builtin; refine wpList_app8g (l := []) rfl (.tmp 12) (.tmp 15) _ (by rfl) sl8 w.heap.size (by rfl) oe (by rfl) RE n (by omega) (by omega) hE.size ?_; intro A7 c7 w7 o7 hg_ b7; rw [List.nil_append] at o7; have hcp := own_cap o7; have b17 := hE.trans b7; have R8 := own_rd o7; clear RE hE oe hg_ b7)
  with_reducible refine (read25_any _ n c7 _ _ R8 (by obtain ⟨h1, h2⟩ := hcp; unfold maxLen at h2; omega)).mono ?_
  rintro e w9 ⟨A9, c9, rfl, o9, b9⟩
  have hB := b17.trans (b9.mono b17.size)
  obtain ⟨P1, hP1⟩ : ∃ P, (redS (l.take n)).1.length = P := ⟨_, rfl⟩
  obtain ⟨E1, hE1⟩ : ∃ P, (redS (l.take n)).2 = P := ⟨_, rfl⟩
  rw [hP1, hE1]
  have HE1 := Lib.hid hE1
  clear hP1 hE1 o9 b9 R8 KS
  go_wp2_with fail
  go_ret
  exact ⟨by rw [HE1.out]; rfl, hB⟩

set_option maxRecDepth 100000 in
set_option maxHeartbeats 1600000 in
theorem told_at (A : Option Addr) (N c : Nat) (l : List UInt8) (n : Nat) (hn : n ≤ N) (k : Nat) (hk : k < n) (x : UInt8) (hx : l[k]? = some x) (want : Int) (w : World) (hr : Rb w A N l) (hN : N ≤ 1000) (hc : N ≤ c) :
    Calls Try.prog 25 #[.slice A N c, .int .i64 (n : Int), .int .i64 ((k : Int)), .int .i64 want] w fun e w' => e = .returned (.bool ((redS ((l.take n).set k (x + 1))).2 == want)) ∧ Below w.heap.size w w' := by
  have HR := Lib.hid hr
  have hl := hr.len8
  have HX := Lib.hid (show (l.take n)[k]? = some x from by rw [List.getElem?_take_of_lt hk]; exact hx)
  clear hr hx
  have KS : ∀ W, (Instr.slice 22 (.slice A N c) none (some (.int .i64 (n : Int))) none).run Try.prog W = .ok (.slice (sA A c 0) n c) W := fun W => sl5_h A N c n rfl (by omega) W
  have oe := own_empty w (Nat.le_refl _) 5 1
  have hE := (Below.refl w.heap.size w).alloc (Nat.le_refl _) (.cells #[] 5)
  have RE0 : Rb w (sA A c 0) n (l.take n) := by
    have := sub_reads (c := c) (i := 0) (v := n) HR.out (by omega) hc
    simpa using this
  have RE := RE0.mv hE
  go_enter Try.func25, Try.ntmps25
  go_wp2_with (at_builtin; refine wpList_app8g (l := []) rfl (.tmp 12) (.tmp 15) _ (by rfl) sl8 w.heap.size (by rfl) oe (by rfl) RE n (by omega) (by omega) hE.size ?_; intro A7 c7 w7 o7 hg_ b7; rw [List.nil_append] at o7; have hcp := own_cap o7; have b17 := hE.trans b7; obtain ⟨g, hA, hgb⟩ := own_head o7 (by omega); subst hA; have hcc : w7.cell? ⟨g, k, none⟩ = some (.int .u8 (x.toNat : Int)) := (by rw [o7.cellAt k (by omega), List.getElem?_map, HX.out]; rfl); have hfr := o7.frozenAt k; obtain ⟨o8, hg8⟩ := o7.stored k (b8 (x + 1)); rw [← List.map_set] at o8; have R8 := own_rd o8; replace b17 := b17.setCell (p := ⟨g, k, none⟩) hgb (b8 (x + 1)); rw [b8_next] at R8 b17; clear o8 hg8; clear RE hE oe hg_ b7)
  with_reducible refine (read25_any _ n c7 _ _ R8 (by obtain ⟨h1, h2⟩ := hcp; unfold maxLen at h2; omega)).mono ?_
  rintro e w9 ⟨A9, c9, rfl, o9, b9⟩
  have hB := b17.trans (b9.mono b17.size)
  obtain ⟨P1, hP1⟩ : ∃ P, (redS ((l.take n).set k (x + 1))).1.length = P := ⟨_, rfl⟩
  obtain ⟨E1, hE1⟩ : ∃ P, (redS ((l.take n).set k (x + 1))).2 = P := ⟨_, rfl⟩
  rw [hP1, hE1]
  have HE1 := Lib.hid hE1
  clear hP1 hE1 o9 b9 R8 KS
  go_wp2_with fail
  go_ret
  exact ⟨by rw [HE1.out]; rfl, hB⟩

end Go.Proofs.Yteaaiacgebikpaa
