/- The walk of SectionChanged. -/
import Derived.Test.YteaaiacgebikpaaSecLaw2
import Derived.Test.YteaaiacgebikpaaSec5
import Derived.Test.YteaaiacgebikpaaSec6
import Derived.Test.YteaaiacgebikpaaSec8
namespace Go.Proofs.Yteaaiacgebikpaa
open Go.RowKit Wire Crc
set_option linter.unusedVariables false

theorem chg_set {l : List UInt8} {k : Nat} (x : UInt8) : Chg l (l.set k x) := by
  refine ⟨k, ?_, ?_, by simp⟩
  · rw [List.take_set_of_le (by omega)]
  · rw [List.drop_set_of_lt (by omega)]
theorem xor_b8 (x : UInt8) (y : Nat) (hy : y < 256) : Value.int .u8 (bits BinOp.xor IntKind.u8 (x.toNat : Int) (y : Int)) = b8 (UInt8.ofNat (x.toNat ^^^ y)) := by
  have hx := x.toNat_lt
  rw [u8_xor_nat _ _ hx hy, b8_ofNat (Nat.xor_lt_two_pow (n := 8) hx hy)]
theorem xor_ne (x : UInt8) (y : Nat) (hy : y < 256) (h0 : ¬ y = 0) : UInt8.ofNat (x.toNat ^^^ y) ≠ x := by
  intro h
  have h2 := congrArg UInt8.toNat h
  have hx := x.toNat_lt
  have hl : x.toNat ^^^ y < 256 := Nat.xor_lt_two_pow (n := 8) hx hy
  rw [UInt8.toNat_ofNat', Nat.mod_eq_of_lt hl] at h2
  have h3 : x.toNat ^^^ y = x.toNat ^^^ 0 := by rw [h2, Nat.xor_zero]
  exact h0 (xor_cancel_left h3)

set_option maxRecDepth 100000 in
set_option maxHeartbeats 6400000 in
theorem sectionChanged_walk (w : World) (A : Option Addr) (n c : Nat) (L : List (Nat × List UInt8)) (hr : RdS w A n L) (hc : n ≤ c ∧ c ≤ 9223372036854775807) (i : Int) (hi : -9223372036854775808 ≤ i ∧ i ≤ 9223372036854775807) (y : Nat) (hy : y < 256) :
    Calls Try.prog 6 #[.slice A n c, .int .i64 i, .int .u8 (y : Int)] w fun e w' => e = .returned (.bool true) ∧ Below w.heap.size w w' := by
  have HS := Lib.hid hr
  clear hr
  go_enter Try.func6, Try.ntmps6
  go_wp2_with fail
  refine (alive25_any _).mono ?_
  rintro e w1 ⟨rfl, hB⟩
  go_wp2_with fail
  refine (great25_any A n c L _ (HS.out.mv hB) (by omega)).mono ?_
  rintro e wq hG
  unfold GrP at hG
  obtain ⟨gb, rfl, hg, rfl⟩ := hG
  cases gb
  rotate_left
  · go_wp2_with fail
    go_ret
    exact ⟨rfl, hB⟩
  obtain ⟨hn20, hle⟩ := hg rfl
  clear hg hle
  go_wp2_with fail
  with_reducible refine (rcheck25_any A n c L _ (HS.out.mv hB) (by omega)).mono ?_
  rintro e w2 ⟨rfl, b2⟩
  replace hB := hB.trans (b2.mono hB.size)
  clear b2
  by_cases hck : ckS L = 0
  rotate_left
  · obtain ⟨E1, hE1⟩ : ∃ P, ckS L = P := ⟨_, rfl⟩
    rw [hE1] at hck ⊢
    have e1 : (E1 != 0) = true := by rw [bne_iff_ne]; exact hck
    clear hck hE1
    go_wp2_with fail
    go_ret
    exact ⟨rfl, hB⟩
  have HW := Lib.hid (show wrL L = secL L from by rw [wrL, if_pos hck])
  have HC1 := Lib.hid (fun (b : List UInt8) h1 h2 => chg_none (b := b) hck h1 h2)
  have HC2 := Lib.hid (fun (k : Nat) h => cut_none (k := k) hck h)
  have HC3 := Lib.hid (fun (x : UInt8) => more_none x hck)
  have HCK := Lib.hid hck
  rw [hck]
  clear hck
  go_wp2_with fail
  with_reducible refine (write25_any A n c L _ (HS.out.mv hB) (by omega)).mono ?_
  rintro e w3 ⟨A3, c3, rfl, o3, b3⟩
  rw [HW.out, HCK.out] at *
  replace hB := hB.trans (b3.mono hB.size)
  have hcap := own_cap o3
  have R3 := own_rd o3
  obtain ⟨SL, hSL⟩ : ∃ SL, secL L = SL := ⟨_, rfl⟩
  rw [hSL] at HC1 HC2 HC3 hcap R3 ⊢
  clear b3 o3 hSL HW HCK HS
  obtain ⟨N, hN⟩ : ∃ N, SL.length = N := ⟨_, rfl⟩
  rw [hN] at HC2 hcap R3 ⊢
  have HN := Lib.hid hN
  clear hN
  have hcap2 : N ≤ c3 ∧ c3 ≤ 9223372036854775807 := by obtain ⟨h1, h2⟩ := hcap; unfold maxLen at h2; omega
  clear hcap
  by_cases g1 : 1600 < N
  · go_wp2_with fail
    go_ret
    exact ⟨rfl, hB⟩
  by_cases g2 : i < 0
  · go_wp2_with fail
    go_ret
    exact ⟨rfl, hB⟩
  obtain ⟨k, rfl⟩ := Int.eq_ofNat_of_zero_le (show 0 ≤ i by omega)
  by_cases g3 : N ≤ k
  · go_wp2_with fail
    go_ret
    exact ⟨rfl, hB⟩
  by_cases g4 : y = 0
  · subst g4
    go_wp2_with fail
    go_ret
    exact ⟨rfl, hB⟩
  have d4 : ((y : Int) == 0) = false := by simp; omega
  have hkN : k < SL.length := by rw [HN.out]; omega
  have hx : SL[k]? = some SL[k] := List.getElem?_eq_getElem hkN
  obtain ⟨x, hxx⟩ : ∃ x, SL[k] = x := ⟨_, rfl⟩
  rw [hxx] at hx
  have HX := Lib.hid hx
  have HNE := Lib.hid (HC1.out (SL.set k (UInt8.ofNat (x.toNat ^^^ y))) (chg_set _) (by
    intro h
    have h2 := congrArg (fun l => l[k]?) h
    simp only [List.getElem?_set_self hkN] at h2
    rw [HX.out] at h2
    injection h2 with h2
    exact xor_ne x y hy g4 h2))
  clear hxx hx hkN
  have oe := own_empty w3 (Nat.le_refl _) 5 1
  have hE := (Below.refl w3.heap.size w3).alloc (Nat.le_refl _) (.cells #[] 5)
  have RE := R3.mv hE
  go_wp2_with (at_builtin; go_loud (refine wpList_app8g (l := []) rfl (.tmp 55) (.tmp 56) _ (by rfl) sl8 w3.heap.size (by rfl) oe (by rfl) RE N (by omega) (by omega) hE.size ?_; intro A7 c7 w7 o7 hg_ b7; rw [List.nil_append] at o7; obtain ⟨g, hA, hgb⟩ := own_head o7 (by omega); subst hA; have hcc : w7.cell? ⟨g, k, none⟩ = some (.int .u8 (x.toNat : Int)) := (by rw [o7.cellAt k (by omega), List.getElem?_map, HX.out]; rfl); have hfr := o7.frozenAt k; obtain ⟨o8, hg8⟩ := o7.stored k (b8 (UInt8.ofNat (x.toNat ^^^ y))); have b8_ := ((hE.trans b7).setCell (p := ⟨g, k, none⟩) hgb (b8 (UInt8.ofNat (x.toNat ^^^ y)))); rw [← List.map_set] at o8; have R8 := own_rd o8; replace R3 := R3.mv b8_; replace hB := hB.trans (b8_.mono hB.size); rw [← xor_b8 x y hy] at R3 hB R8; have hcp := own_cap o7; clear RE hE oe o8 hg8 b8_ o7 hg_ b7))
  generalize w7.setCell ⟨g, k, none⟩ (Value.int IntKind.u8 (bits BinOp.xor IntKind.u8 (x.toNat : Int) (y : Int))) = w8 at *
  with_reducible refine (read25_any _ N c7 _ _ R8 (by obtain ⟨h1, h2⟩ := hcp; unfold maxLen at h2; omega)).mono ?_
  rintro e w9 ⟨A9, c9, rfl, o9, b9⟩
  have HNE' := HNE.out
  obtain ⟨P1, hP1⟩ : ∃ P, (redS (SL.set k (UInt8.ofNat (x.toNat ^^^ y)))).1.length = P := ⟨_, rfl⟩
  obtain ⟨E1, hE1⟩ : ∃ P, (redS (SL.set k (UInt8.ofNat (x.toNat ^^^ y)))).2 = P := ⟨_, rfl⟩
  rw [hP1, hE1]
  rw [hE1] at HNE'
  have e1 : (E1 != 0) = true := by rw [bne_iff_ne]; exact HNE'
  replace R3 := R3.mv b9
  replace hB := hB.trans (b9.mono hB.size)
  clear HNE' hP1 hE1 o9 b9 R8 HNE
  have KS : ∀ W, (Instr.slice 22 (.slice A3 N c3) none (some (.int .i64 (k : Int))) none).run Try.prog W = .ok (.slice (sA A3 c3 0) k c3) W := fun W => sl5_h A3 N c3 k rfl (by omega) W
  have HS2 : Rb w9 (sA A3 c3 0) k (SL.take k) := by
    have := sub_reads (c := c3) (i := 0) (v := k) R3 (by omega) hcap2.1
    simpa using this
  go_wp2_with fail
  with_reducible refine (read25_any _ k c3 _ _ HS2 (by omega)).mono ?_
  rintro e w10 ⟨A10, c10, rfl, o10, b10⟩
  have HNE2 := HC2.out k (by omega)
  obtain ⟨P2, hP2⟩ : ∃ P, (redS (SL.take k)).1.length = P := ⟨_, rfl⟩
  obtain ⟨E2, hE2⟩ : ∃ P, (redS (SL.take k)).2 = P := ⟨_, rfl⟩
  rw [hP2, hE2]
  rw [hE2] at HNE2
  have e2 : (E2 != 0) = true := by rw [bne_iff_ne]; exact HNE2
  replace R3 := R3.mv b10
  replace hB := hB.trans (b10.mono hB.size)
  clear HNE2 hP2 hE2 o10 b10 HS2 KS
  have hz10 := hB.size
  have oe := own_empty w10 (Nat.le_refl _) 5 1
  have hE := (Below.refl w10.heap.size w10).alloc (Nat.le_refl _) (.cells #[] 5)
  have RE := R3.mv hE
  have HNE3 := Lib.hid (HC3.out (UInt8.ofNat y))
  have HY : Value.int .u8 (y : Int) = b8 (UInt8.ofNat y) := by rw [b8_ofNat hy]
  have HYY := Lib.hid HY
  clear HY
  go_wp2_with (at_builtin; first | (refine wpList_app8g (l := []) rfl (.tmp 78) (.tmp 79) _ (by rfl) sl8 w10.heap.size (by rfl) oe (by rfl) RE N (by omega) (by omega) hE.size ?_; intro A11 c11 w11 o11 hg_ b11; rw [List.nil_append] at o11; have b12 := hE.trans b11; replace hB := hB.trans (b12.mono hB.size); have oN := own_alloc_ (o := .cells #[.int .u8 (y : Int)] 5) o11; have hz12 := b12.size; have RB := reads_bytes w11 [UInt8.ofNat y] 5; rw [show (([UInt8.ofNat y] : List UInt8).map b8).toArray = #[Value.int .u8 (y : Int)] from by rw [HYY.out]; rfl] at RB; clear hE RE oe o11 hg_ b11 b12) | (refine wpList_app8g (l := SL) rfl (.tmp 80) (.tmp 82) _ (by rfl) sl8 w10.heap.size (by rfl) oN (by rfl) RB (N + 1) (by simp) (by omega) (by simp <;> omega) ?_; intro A13 c13 w13 o13 hg_ b13))
  with_reducible refine (read25_any _ (N + 1) c13 _ _ (own_rd o13) (by obtain ⟨h1, h2⟩ := own_cap o13; unfold maxLen at h2; omega)).mono ?_
  rintro e w14 ⟨A14, c14, rfl, o14, b14⟩
  have HNE3' := HNE3.out
  obtain ⟨P3, hP3⟩ : ∃ P, (redS (SL ++ [UInt8.ofNat y])).1.length = P := ⟨_, rfl⟩
  obtain ⟨E3, hE3⟩ : ∃ P, (redS (SL ++ [UInt8.ofNat y])).2 = P := ⟨_, rfl⟩
  rw [hP3, hE3]
  rw [hE3] at HNE3'
  have e3 : (E3 != 0) = true := by rw [bne_iff_ne]; exact HNE3'
  have hB13 := (hB.alloc hB.size (.cells #[.int .u8 (y : Int)] 5)).trans (b13.mono hz10)
  replace hB := hB13.trans (b14.mono hB13.size)
  clear hB13
  clear HNE3' hP3 hE3 o14 b14 o13
  go_wp2_with fail
  go_ret
  exact ⟨rfl, hB⟩

end Go.Proofs.Yteaaiacgebikpaa
