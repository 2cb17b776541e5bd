/- The walk of TablesTells. -/
import Derived.Test.YtibkimmagiijnaaTab8
import Derived.Test.YtibkimmagiijnaaTab5
namespace Go.Proofs.Ytibkimmagiijnaa
open Go.RowKit Wire
set_option linter.unusedVariables false
theorem wpList_app0 {P : Program} {w : World} {ops : Array Oper} {rest : List Oper} {o : Oper} {a : Act} {Q : Exit → Act → World → Prop} (hgd : Region.wanted o (yielded ops a.tmps) = true) (s x : Operand) (t : TypeId)
    (ho : o.op = .call { callee := .builtin .append, args := #[s, x], argTypes := #[t, t] }) {e : TypeId} {z : Value} {size bytes : Nat} (hsl : IsSl P t e z size bytes)
    (base : Nat) (v : Value) (hs : a.eval s = v) (hown : w.ownsRow base e size v 0 [])
    (B : Nat) (A : Option Addr) (m c : Nat) (news : List Value) (hx : a.eval x = .slice A m c) (hr : Reads w B size A m news) (h1 : ∀ u ∈ news, u.oneCell' = true)
    (hbytes : m * bytes ≤ 140737488355328) (hbase : base ≤ w.heap.size)
    (h : ∀ A' c' w', w'.ownsRow base e size (.slice A' m c') m news → Below base w w' → m ≤ c' → wpList P ops Q rest (a.put o.dst (.slice A' m c')) w') : wpList P ops Q (o :: rest) a w :=
  BigFrame.wpList_want hgd fun _ hK => wp_app0 s x t ho hsl base v hs hown B A m c news hx hr h1 hbytes hbase fun A' c' w' h2 h3 h4 => hK _ _ (h A' c' w' h2 h3 h4)
theorem lsL_lt {L : List (Int × Nat)} (hf : ∀ p ∈ L, fitR p) (k : Int) : ∀ x ∈ lsL L k, x < 18446744073709551616 := by
  unfold lsL lstF
  split
  · intro x hx
    obtain ⟨i, _, rfl⟩ := List.mem_map.1 hx
    exact valA_lt hf
  · simp
theorem lsL_len (L : List (Int × Nat)) (k : Int) : (lsL L k).length ≤ 200 := by
  unfold lsL
  split
  · rename_i h
    have := (ck_zero8 h).1
    rw [lstF_len]; omega
  · simp

set_option maxRecDepth 100000 in
set_option maxHeartbeats 8000000 in
theorem tablesTells_walk (w : World) (A : Option Addr) (n c : Nat) (L : List (Int × Nat)) (hr : RdN w A n L) (hc : n ≤ c ∧ c ≤ 9223372036854775807) (k : Int) (hk : -9223372036854775808 ≤ k ∧ k ≤ 9223372036854775807) (i : Int) (hi : -9223372036854775808 ≤ i ∧ i ≤ 9223372036854775807) :
    Calls Try.prog 5 #[.slice A n c, .int .i64 k, .int .i64 i] w fun e w' => e = .returned (.bool true) ∧ Below w.heap.size w w' := by
  have HL := Lib.hid hr.len
  have hc2 : n ≤ 9223372036854775807 := by omega
  by_cases hn : n ≤ 210
  rotate_left
  · have d1 : decide ((n : Int) > 210) = true := by rw [decide_eq_true_eq]; omega
    go_enter Try.func5, Try.ntmps5
    go_wp2_with fail
    go_ret
    exact ⟨rfl, Below.refl _ _⟩
  have d1 : decide ((n : Int) > 210) = false := by rw [decide_eq_false_iff_not]; omega
  have hf := hr.2
  have R := hr
  have hB := Below.refl w.heap.size w
  go_enter Try.func5, Try.ntmps5
  go_wp2_with (at_builtin; refine wpList_app0 rfl (.tmp 23) (.tmp 24) _ rfl slR w.heap.size _ rfl (own_empty w (Nat.le_refl _) _ 2) _ A n c (rnC L) rfl (hr.1.al _) (rnC_one L) (by omega) (by simp) ?_; intro A9 c9 w1 o9 b9 h9; have b := Below.trans (show Below w.heap.size w _ from Ext.al w (.cells #[] 61)) b9; replace R := R.mv b; replace hB := b; clear b b9; have R9 := own_rdN o9 hf; clear o9)
  refine (at_any A n c L k i _ R hc).mono ?_
  rintro e w2 ⟨rfl, b⟩
  replace R := R.mv b
  replace R9 := R9.mv b
  replace hB := hB.trans (b.mono hB.size)
  clear b
  go_wp2_with fail
  refine (reat_any A n c L k i _ R hc).mono ?_
  rintro e w3 ⟨rfl, b⟩
  replace R := R.mv b
  replace R9 := R9.mv b
  replace hB := hB.trans (b.mono hB.size)
  clear b
  go_wp2_with fail
  refine (list_any A n c L k _ R hc).mono ?_
  rintro e w4 ⟨A4, c4, rfl, o4, b⟩
  have R4 := own_rdU o4 (lsL_lt hf k)
  clear o4
  replace R := R.mv b
  replace R9 := R9.mv b
  replace hB := hB.trans (b.mono hB.size)
  clear b
  go_wp2_with fail
  refine (relist_any A n c L k _ R hc).mono ?_
  rintro e w5 ⟨A5, c5, rfl, o5, b⟩
  have R5 := own_rdU o5 (lsL_lt hf k)
  clear o5
  replace R := R.mv b
  replace R9 := R9.mv b
  replace R4 := R4.mv b
  replace hB := hB.trans (b.mono hB.size)
  clear b
  go_wp2_with fail
  refine (encode8_any A n c L k _ R hc).mono ?_
  rintro e w6 ⟨A6, c6, rfl, o6, b⟩
  have R6 := own_rd o6
  clear o6
  replace R := R.mv b
  replace R9 := R9.mv b
  replace R4 := R4.mv b
  replace R5 := R5.mv b
  replace hB := hB.trans (b.mono hB.size)
  clear b
  go_wp2_with fail
  refine (reencode8_any A n c L k _ R hc).mono ?_
  rintro e w7 ⟨A7, c7, rfl, o7, b⟩
  have R7 := own_rd o7
  clear o7
  replace R := R.mv b
  replace R9 := R9.mv b
  replace R4 := R4.mv b
  replace R5 := R5.mv b
  replace R6 := R6.mv b
  replace hB := hB.trans (b.mono hB.size)
  clear b
  go_wp2_with fail
  refine (check8_any A n c L k _ R hc).mono ?_
  rintro e w8 ⟨rfl, b⟩
  replace R := R.mv b
  replace R9 := R9.mv b
  replace R4 := R4.mv b
  replace R5 := R5.mv b
  replace R6 := R6.mv b
  replace R7 := R7.mv b
  replace hB := hB.trans (b.mono hB.size)
  clear b
  go_wp2_with fail
  refine (recheck8_any A n c L k _ R hc).mono ?_
  rintro e w9 ⟨rfl, b⟩
  replace R := R.mv b
  replace R9 := R9.mv b
  replace R4 := R4.mv b
  replace R5 := R5.mv b
  replace R6 := R6.mv b
  replace R7 := R7.mv b
  replace hB := hB.trans (b.mono hB.size)
  clear b
  have hll : (lsL L k).length ≤ 9223372036854775807 := by have := R4.len; have h2 := lsL_len L k; omega
  generalize ecL L k = xe at *
  generalize lsL L k = xl at *
  generalize ckT L k = xc at *
  generalize atE L k i = xa at *
  generalize atV L k i = xv at *
  go_wp2_with fail
  refine (sameValues_any A4 xl.length c4 xl A5 xl.length c5 xl _ R4 R5 hll).mono ?_
  rintro e w10 ⟨rfl, b⟩
  rw [decide_eq_true (rfl : xl = xl)]
  replace R := R.mv b
  replace R9 := R9.mv b
  replace R4 := R4.mv b
  replace R5 := R5.mv b
  replace R6 := R6.mv b
  replace R7 := R7.mv b
  replace hB := hB.trans (b.mono hB.size)
  clear b
  have K6 := cvS c6 R6
  have K7 := cvS c7 R7
  go_wp2_with fail
  clear K6 K7
  refine (same8_any A n c L A9 n c9 L _ R R9 hc2).mono ?_
  rintro e w11 ⟨rfl, b⟩
  rw [decide_eq_true (rfl : L = L)]
  replace R := R.mv b
  replace R9 := R9.mv b
  replace R4 := R4.mv b
  replace R5 := R5.mv b
  replace R6 := R6.mv b
  replace R7 := R7.mv b
  replace hB := hB.trans (b.mono hB.size)
  clear b
  go_wp2_with fail
  go_ret
  exact ⟨rfl, hB⟩

end Go.Proofs.Ytibkimmagiijnaa
