/- The walk of OpsNamed. -/
import Derived.Test.YtkhdeoihjnpnaaaOps8
import Derived.BigQuiet
namespace Go.Proofs.Ytkhdeoihjnpnaaa
open Go.RowKit Wire
set_option linter.unusedVariables false

theorem nm_all : ((List.range 35).all fun a => (List.range 35).all fun b => decide ((nmG a).data.toList = (nmG b).data.toList) == decide (a = b)) = true := by decide +kernel
theorem nm_inj {a b : Nat} (ha : a < 35) (hb : b < 35) (h : nmG a = nmG b) : a = b := by
  have h1 := List.all_eq_true.1 (List.all_eq_true.1 nm_all a (List.mem_range.2 ha)) b (List.mem_range.2 hb)
  rw [h] at h1
  simpa using h1
theorem nm_get {a : Nat} (h : a < 35) : nmL[a]? = some (nmG a) := by
  have h2 : a < nmL.length := h
  unfold nmG
  rw [List.getElem?_eq_getElem h2, List.getD_eq_getElem?_getD, List.getElem?_eq_getElem h2]
  rfl
theorem op_nm {a : Nat} (h : 1 ≤ a ∧ a ≤ 34) : opV (nmG a) = a ∧ opE (nmG a) = 0 := by
  have hi : ixS (nmL.drop 1) (nmG a) = ((a - 1 : Nat) : Int) := by
    refine ix_yes (fun t ht => ?_) ?_
    · rw [List.mem_take_iff_getElem] at ht
      obtain ⟨i, hi, rfl⟩ := ht
      rw [List.getElem_drop]
      have h3 : i < a - 1 := by omega
      have h2 := nm_get (a := 1 + i) (by omega)
      have h4 : nmL[1 + i]'(by rw [nm_len]; omega) = nmG (1 + i) := by
        rw [List.getElem?_eq_getElem (by rw [nm_len]; omega)] at h2
        injection h2
      rw [h4]
      intro e
      have := nm_inj (by omega) (by omega) e
      omega
    · rw [List.getElem?_drop, show 1 + (a - 1) = a by omega]
      exact nm_get (by omega)
  refine ⟨?_, by rw [opE, if_neg (by omega)]⟩
  rw [opV, if_neg (by omega), opS, hi]
  omega
theorem nm_op (s : ByteArray) : (opE s = 6 ∧ opV s = 0) ∨ ∃ i : Nat, opE s = 0 ∧ opV s = (i : Int) ∧ 1 ≤ i ∧ i ≤ 34 ∧ nmG i = s := by
  rcases ix_cases (nmL.drop 1) s with h | ⟨i, h, hi⟩
  · exact .inl ⟨by rw [opE, if_pos (by omega)], by rw [opV, if_pos (by omega)]⟩
  · have hi34 : i < 34 := (List.getElem?_eq_some_iff.1 hi).1
    refine .inr ⟨i + 1, by rw [opE, if_neg (by omega)], by rw [opV, if_neg (by omega), opS, h]; omega, by omega, by omega, ?_⟩
    rw [List.getElem?_drop, show 1 + i = i + 1 by omega, nm_get (by omega)] at hi
    injection hi
theorem nmE_no {a : Nat} (h : a = 0 ∨ 35 ≤ a) : nmE a = 6 := by rw [nmE, if_neg (by omega)]
theorem nmE_yes {a : Nat} (h : 1 ≤ a ∧ a ≤ 34) : nmE a = 0 := by rw [nmE, if_pos h]

set_option maxRecDepth 100000 in
set_option maxHeartbeats 6400000 in
theorem opsNamed_walk (w : World) (a : Nat) (ha : a < 256) (b : Nat) (hb : b < 256) (s : ByteArray) (hss : s.size ≤ 9223372036854775807) :
    Calls Try.prog 4 #[.int .u8 (a : Int), .int .u8 (b : Int), .string s] w fun e w' => e = .returned (.bool true) ∧ Below w.heap.size w w' := by
  have hB := Below.refl w.heap.size w
  by_cases hs : 100 < s.size
  · go_enter Try.func4, Try.ntmps4
    go_wp2_with fail
    refine (alive6_any _).mono ?_
    rintro e w1 ⟨rfl, b⟩
    replace hB := hB.trans (b.mono hB.size)
    go_wp2_with fail
    go_ret
    exact ⟨rfl, hB⟩
  have hsi : ((s.size : Nat) : Int) ≤ 100 := by omega
  have hs2 : decide (((s.size : Nat) : Int) > 100) = false := by simp; omega
  rcases (show (1 ≤ a ∧ a ≤ 34) ∨ a = 0 ∨ 35 ≤ a by omega) with hai | hai | hai
  · rcases (show (1 ≤ b ∧ b ≤ 34) ∨ b = 0 ∨ 35 ≤ b by omega) with hbi | hbi | hbi
    · have Ea := Lib.hid (nmE_yes hai)
      have ga0 : decide (1 ≤ (a : Int)) = true := by simp; omega
      have ga1 : decide ((a : Int) ≤ 34) = true := by simp; omega
      have ga2 : decide ((a : Int) ≥ 1) = true := by simp; omega
      have Eb := Lib.hid (nmE_yes hbi)
      have gb0 : decide (1 ≤ (b : Int)) = true := by simp; omega
      have gb1 : decide ((b : Int) ≤ 34) = true := by simp; omega
      have gb2 : decide ((b : Int) ≥ 1) = true := by simp; omega
      go_enter Try.func4, Try.ntmps4
      go_wp2_with fail
      refine (name6_any a (by omega) _).mono ?_
      rintro e w1 ⟨rfl, b_⟩
      replace hB := hB.trans (b_.mono hB.size)
      clear b_
      rw [Ea.out]
      go_wp2_with fail
      refine (name6_any b (by omega) _).mono ?_
      rintro e w2 ⟨rfl, b_⟩
      replace hB := hB.trans (b_.mono hB.size)
      clear b_
      rw [Eb.out]
      by_cases hab : a = b
      · subst hab
        have q1 := tl_yes (nmG a)
        go_wp2_with fail
        refine (op6_any (nmG a) _).mono ?_
        rintro e w3 ⟨rfl, b_⟩
        replace hB := hB.trans (b_.mono hB.size)
        clear b_
        rw [(op_nm hai).1, (op_nm hai).2]
        go_wp2_with fail
        refine (op6_any s _).mono ?_
        rintro e w6 ⟨rfl, b_⟩
        replace hB := hB.trans (b_.mono hB.size)
        clear b_
        rcases nm_op s with ⟨e1, e2⟩ | ⟨i, e1, e2, i1, i2, i3⟩
        · rw [e1, e2]
          clear e1 e2
          go_wp2_with fail
          refine (alive6_any _).mono ?_
          rintro e w7 ⟨rfl, b_⟩
          replace hB := hB.trans (b_.mono hB.size)
          clear b_
          go_wp2_with fail
          go_ret
          exact ⟨rfl, hB⟩
        · rw [e1, e2]
          have I3 := Lib.hid i3
          have EI := Lib.hid (nmE_yes ⟨i1, i2⟩)
          clear e1 e2 i3
          go_wp2_with fail
          refine (name6_any i (by omega) _).mono ?_
          rintro e w7 ⟨rfl, b_⟩
          replace hB := hB.trans (b_.mono hB.size)
          clear b_
          rw [EI.out, I3.out]
          have q9 := tl_yes s
          go_wp2_with fail
          refine (alive6_any _).mono ?_
          rintro e w8 ⟨rfl, b_⟩
          replace hB := hB.trans (b_.mono hB.size)
          clear b_
          go_wp2_with fail
          go_ret
          exact ⟨rfl, hB⟩
      · have q1 := tl_no (fun e => hab (nm_inj (by omega) (by omega) e))
        have q2 : ((a : Int) == (b : Int)) = false := by simp; omega
        clear hab
        go_wp2_with fail
        refine (op6_any (nmG a) _).mono ?_
        rintro e w3 ⟨rfl, b_⟩
        replace hB := hB.trans (b_.mono hB.size)
        clear b_
        rw [(op_nm hai).1, (op_nm hai).2]
        go_wp2_with fail
        refine (op6_any s _).mono ?_
        rintro e w6 ⟨rfl, b_⟩
        replace hB := hB.trans (b_.mono hB.size)
        clear b_
        rcases nm_op s with ⟨e1, e2⟩ | ⟨i, e1, e2, i1, i2, i3⟩
        · rw [e1, e2]
          clear e1 e2
          go_wp2_with fail
          refine (alive6_any _).mono ?_
          rintro e w7 ⟨rfl, b_⟩
          replace hB := hB.trans (b_.mono hB.size)
          clear b_
          go_wp2_with fail
          go_ret
          exact ⟨rfl, hB⟩
        · rw [e1, e2]
          have I3 := Lib.hid i3
          have EI := Lib.hid (nmE_yes ⟨i1, i2⟩)
          clear e1 e2 i3
          go_wp2_with fail
          refine (name6_any i (by omega) _).mono ?_
          rintro e w7 ⟨rfl, b_⟩
          replace hB := hB.trans (b_.mono hB.size)
          clear b_
          rw [EI.out, I3.out]
          have q9 := tl_yes s
          go_wp2_with fail
          refine (alive6_any _).mono ?_
          rintro e w8 ⟨rfl, b_⟩
          replace hB := hB.trans (b_.mono hB.size)
          clear b_
          go_wp2_with fail
          go_ret
          exact ⟨rfl, hB⟩
    · have Ea := Lib.hid (nmE_yes hai)
      have ga0 : decide (1 ≤ (a : Int)) = true := by simp; omega
      have ga1 : decide ((a : Int) ≤ 34) = true := by simp; omega
      have ga2 : decide ((a : Int) ≥ 1) = true := by simp; omega
      have Eb := Lib.hid (nmE_no (.inl hbi))
      subst hbi
      go_enter Try.func4, Try.ntmps4
      go_wp2_with fail
      refine (name6_any a (by omega) _).mono ?_
      rintro e w1 ⟨rfl, b_⟩
      replace hB := hB.trans (b_.mono hB.size)
      clear b_
      rw [Ea.out]
      go_wp2_with fail
      refine (name6_any 0 (by omega) _).mono ?_
      rintro e w2 ⟨rfl, b_⟩
      replace hB := hB.trans (b_.mono hB.size)
      clear b_
      rw [Eb.out]
      go_wp2_with fail
      refine (op6_any (nmG a) _).mono ?_
      rintro e w3 ⟨rfl, b_⟩
      replace hB := hB.trans (b_.mono hB.size)
      clear b_
      rw [(op_nm hai).1, (op_nm hai).2]
      go_wp2_with fail
      refine (op6_any s _).mono ?_
      rintro e w6 ⟨rfl, b_⟩
      replace hB := hB.trans (b_.mono hB.size)
      clear b_
      rcases nm_op s with ⟨e1, e2⟩ | ⟨i, e1, e2, i1, i2, i3⟩
      · rw [e1, e2]
        clear e1 e2
        go_wp2_with fail
        refine (alive6_any _).mono ?_
        rintro e w7 ⟨rfl, b_⟩
        replace hB := hB.trans (b_.mono hB.size)
        clear b_
        go_wp2_with fail
        go_ret
        exact ⟨rfl, hB⟩
      · rw [e1, e2]
        have I3 := Lib.hid i3
        have EI := Lib.hid (nmE_yes ⟨i1, i2⟩)
        clear e1 e2 i3
        go_wp2_with fail
        refine (name6_any i (by omega) _).mono ?_
        rintro e w7 ⟨rfl, b_⟩
        replace hB := hB.trans (b_.mono hB.size)
        clear b_
        rw [EI.out, I3.out]
        have q9 := tl_yes s
        go_wp2_with fail
        refine (alive6_any _).mono ?_
        rintro e w8 ⟨rfl, b_⟩
        replace hB := hB.trans (b_.mono hB.size)
        clear b_
        go_wp2_with fail
        go_ret
        exact ⟨rfl, hB⟩
    · have Ea := Lib.hid (nmE_yes hai)
      have ga0 : decide (1 ≤ (a : Int)) = true := by simp; omega
      have ga1 : decide ((a : Int) ≤ 34) = true := by simp; omega
      have ga2 : decide ((a : Int) ≥ 1) = true := by simp; omega
      have Eb := Lib.hid (nmE_no (.inr hbi))
      have gb0 : decide (1 ≤ (b : Int)) = true := by simp; omega
      have gb1 : decide ((b : Int) ≤ 34) = false := by simp; omega
      have gb2 : decide ((b : Int) ≥ 1) = true := by simp; omega
      go_enter Try.func4, Try.ntmps4
      go_wp2_with fail
      refine (name6_any a (by omega) _).mono ?_
      rintro e w1 ⟨rfl, b_⟩
      replace hB := hB.trans (b_.mono hB.size)
      clear b_
      rw [Ea.out]
      go_wp2_with fail
      refine (name6_any b (by omega) _).mono ?_
      rintro e w2 ⟨rfl, b_⟩
      replace hB := hB.trans (b_.mono hB.size)
      clear b_
      rw [Eb.out]
      go_wp2_with fail
      refine (op6_any (nmG a) _).mono ?_
      rintro e w3 ⟨rfl, b_⟩
      replace hB := hB.trans (b_.mono hB.size)
      clear b_
      rw [(op_nm hai).1, (op_nm hai).2]
      go_wp2_with fail
      refine (op6_any s _).mono ?_
      rintro e w6 ⟨rfl, b_⟩
      replace hB := hB.trans (b_.mono hB.size)
      clear b_
      rcases nm_op s with ⟨e1, e2⟩ | ⟨i, e1, e2, i1, i2, i3⟩
      · rw [e1, e2]
        clear e1 e2
        go_wp2_with fail
        refine (alive6_any _).mono ?_
        rintro e w7 ⟨rfl, b_⟩
        replace hB := hB.trans (b_.mono hB.size)
        clear b_
        go_wp2_with fail
        go_ret
        exact ⟨rfl, hB⟩
      · rw [e1, e2]
        have I3 := Lib.hid i3
        have EI := Lib.hid (nmE_yes ⟨i1, i2⟩)
        clear e1 e2 i3
        go_wp2_with fail
        refine (name6_any i (by omega) _).mono ?_
        rintro e w7 ⟨rfl, b_⟩
        replace hB := hB.trans (b_.mono hB.size)
        clear b_
        rw [EI.out, I3.out]
        have q9 := tl_yes s
        go_wp2_with fail
        refine (alive6_any _).mono ?_
        rintro e w8 ⟨rfl, b_⟩
        replace hB := hB.trans (b_.mono hB.size)
        clear b_
        go_wp2_with fail
        go_ret
        exact ⟨rfl, hB⟩
  · rcases (show (1 ≤ b ∧ b ≤ 34) ∨ b = 0 ∨ 35 ≤ b by omega) with hbi | hbi | hbi
    · have Ea := Lib.hid (nmE_no (.inl hai))
      subst hai
      have Eb := Lib.hid (nmE_yes hbi)
      have gb0 : decide (1 ≤ (b : Int)) = true := by simp; omega
      have gb1 : decide ((b : Int) ≤ 34) = true := by simp; omega
      have gb2 : decide ((b : Int) ≥ 1) = true := by simp; omega
      go_enter Try.func4, Try.ntmps4
      go_wp2_with fail
      refine (name6_any 0 (by omega) _).mono ?_
      rintro e w1 ⟨rfl, b_⟩
      replace hB := hB.trans (b_.mono hB.size)
      clear b_
      rw [Ea.out]
      go_wp2_with fail
      refine (name6_any b (by omega) _).mono ?_
      rintro e w2 ⟨rfl, b_⟩
      replace hB := hB.trans (b_.mono hB.size)
      clear b_
      rw [Eb.out]
      go_wp2_with fail
      refine (op6_any s _).mono ?_
      rintro e w6 ⟨rfl, b_⟩
      replace hB := hB.trans (b_.mono hB.size)
      clear b_
      rcases nm_op s with ⟨e1, e2⟩ | ⟨i, e1, e2, i1, i2, i3⟩
      · rw [e1, e2]
        clear e1 e2
        go_wp2_with fail
        refine (alive6_any _).mono ?_
        rintro e w7 ⟨rfl, b_⟩
        replace hB := hB.trans (b_.mono hB.size)
        clear b_
        go_wp2_with fail
        go_ret
        exact ⟨rfl, hB⟩
      · rw [e1, e2]
        have I3 := Lib.hid i3
        have EI := Lib.hid (nmE_yes ⟨i1, i2⟩)
        clear e1 e2 i3
        go_wp2_with fail
        refine (name6_any i (by omega) _).mono ?_
        rintro e w7 ⟨rfl, b_⟩
        replace hB := hB.trans (b_.mono hB.size)
        clear b_
        rw [EI.out, I3.out]
        have q9 := tl_yes s
        go_wp2_with fail
        refine (alive6_any _).mono ?_
        rintro e w8 ⟨rfl, b_⟩
        replace hB := hB.trans (b_.mono hB.size)
        clear b_
        go_wp2_with fail
        go_ret
        exact ⟨rfl, hB⟩
    · have Ea := Lib.hid (nmE_no (.inl hai))
      subst hai
      have Eb := Lib.hid (nmE_no (.inl hbi))
      subst hbi
      go_enter Try.func4, Try.ntmps4
      go_wp2_with fail
      refine (name6_any 0 (by omega) _).mono ?_
      rintro e w1 ⟨rfl, b_⟩
      replace hB := hB.trans (b_.mono hB.size)
      clear b_
      rw [Ea.out]
      go_wp2_with fail
      refine (name6_any 0 (by omega) _).mono ?_
      rintro e w2 ⟨rfl, b_⟩
      replace hB := hB.trans (b_.mono hB.size)
      clear b_
      rw [Eb.out]
      go_wp2_with fail
      refine (op6_any s _).mono ?_
      rintro e w6 ⟨rfl, b_⟩
      replace hB := hB.trans (b_.mono hB.size)
      clear b_
      rcases nm_op s with ⟨e1, e2⟩ | ⟨i, e1, e2, i1, i2, i3⟩
      · rw [e1, e2]
        clear e1 e2
        go_wp2_with fail
        refine (alive6_any _).mono ?_
        rintro e w7 ⟨rfl, b_⟩
        replace hB := hB.trans (b_.mono hB.size)
        clear b_
        go_wp2_with fail
        go_ret
        exact ⟨rfl, hB⟩
      · rw [e1, e2]
        have I3 := Lib.hid i3
        have EI := Lib.hid (nmE_yes ⟨i1, i2⟩)
        clear e1 e2 i3
        go_wp2_with fail
        refine (name6_any i (by omega) _).mono ?_
        rintro e w7 ⟨rfl, b_⟩
        replace hB := hB.trans (b_.mono hB.size)
        clear b_
        rw [EI.out, I3.out]
        have q9 := tl_yes s
        go_wp2_with fail
        refine (alive6_any _).mono ?_
        rintro e w8 ⟨rfl, b_⟩
        replace hB := hB.trans (b_.mono hB.size)
        clear b_
        go_wp2_with fail
        go_ret
        exact ⟨rfl, hB⟩
    · have Ea := Lib.hid (nmE_no (.inl hai))
      subst hai
      have Eb := Lib.hid (nmE_no (.inr hbi))
      have gb0 : decide (1 ≤ (b : Int)) = true := by simp; omega
      have gb1 : decide ((b : Int) ≤ 34) = false := by simp; omega
      have gb2 : decide ((b : Int) ≥ 1) = true := by simp; omega
      go_enter Try.func4, Try.ntmps4
      go_wp2_with fail
      refine (name6_any 0 (by omega) _).mono ?_
      rintro e w1 ⟨rfl, b_⟩
      replace hB := hB.trans (b_.mono hB.size)
      clear b_
      rw [Ea.out]
      go_wp2_with fail
      refine (name6_any b (by omega) _).mono ?_
      rintro e w2 ⟨rfl, b_⟩
      replace hB := hB.trans (b_.mono hB.size)
      clear b_
      rw [Eb.out]
      go_wp2_with fail
      refine (op6_any s _).mono ?_
      rintro e w6 ⟨rfl, b_⟩
      replace hB := hB.trans (b_.mono hB.size)
      clear b_
      rcases nm_op s with ⟨e1, e2⟩ | ⟨i, e1, e2, i1, i2, i3⟩
      · rw [e1, e2]
        clear e1 e2
        go_wp2_with fail
        refine (alive6_any _).mono ?_
        rintro e w7 ⟨rfl, b_⟩
        replace hB := hB.trans (b_.mono hB.size)
        clear b_
        go_wp2_with fail
        go_ret
        exact ⟨rfl, hB⟩
      · rw [e1, e2]
        have I3 := Lib.hid i3
        have EI := Lib.hid (nmE_yes ⟨i1, i2⟩)
        clear e1 e2 i3
        go_wp2_with fail
        refine (name6_any i (by omega) _).mono ?_
        rintro e w7 ⟨rfl, b_⟩
        replace hB := hB.trans (b_.mono hB.size)
        clear b_
        rw [EI.out, I3.out]
        have q9 := tl_yes s
        go_wp2_with fail
        refine (alive6_any _).mono ?_
        rintro e w8 ⟨rfl, b_⟩
        replace hB := hB.trans (b_.mono hB.size)
        clear b_
        go_wp2_with fail
        go_ret
        exact ⟨rfl, hB⟩
  · rcases (show (1 ≤ b ∧ b ≤ 34) ∨ b = 0 ∨ 35 ≤ b by omega) with hbi | hbi | hbi
    · have Ea := Lib.hid (nmE_no (.inr hai))
      have ga0 : decide (1 ≤ (a : Int)) = true := by simp; omega
      have ga1 : decide ((a : Int) ≤ 34) = false := by simp; omega
      have ga2 : decide ((a : Int) ≥ 1) = true := by simp; omega
      have Eb := Lib.hid (nmE_yes hbi)
      have gb0 : decide (1 ≤ (b : Int)) = true := by simp; omega
      have gb1 : decide ((b : Int) ≤ 34) = true := by simp; omega
      have gb2 : decide ((b : Int) ≥ 1) = true := by simp; omega
      go_enter Try.func4, Try.ntmps4
      go_wp2_with fail
      refine (name6_any a (by omega) _).mono ?_
      rintro e w1 ⟨rfl, b_⟩
      replace hB := hB.trans (b_.mono hB.size)
      clear b_
      rw [Ea.out]
      go_wp2_with fail
      refine (name6_any b (by omega) _).mono ?_
      rintro e w2 ⟨rfl, b_⟩
      replace hB := hB.trans (b_.mono hB.size)
      clear b_
      rw [Eb.out]
      go_wp2_with fail
      refine (op6_any s _).mono ?_
      rintro e w6 ⟨rfl, b_⟩
      replace hB := hB.trans (b_.mono hB.size)
      clear b_
      rcases nm_op s with ⟨e1, e2⟩ | ⟨i, e1, e2, i1, i2, i3⟩
      · rw [e1, e2]
        clear e1 e2
        go_wp2_with fail
        refine (alive6_any _).mono ?_
        rintro e w7 ⟨rfl, b_⟩
        replace hB := hB.trans (b_.mono hB.size)
        clear b_
        go_wp2_with fail
        go_ret
        exact ⟨rfl, hB⟩
      · rw [e1, e2]
        have I3 := Lib.hid i3
        have EI := Lib.hid (nmE_yes ⟨i1, i2⟩)
        clear e1 e2 i3
        go_wp2_with fail
        refine (name6_any i (by omega) _).mono ?_
        rintro e w7 ⟨rfl, b_⟩
        replace hB := hB.trans (b_.mono hB.size)
        clear b_
        rw [EI.out, I3.out]
        have q9 := tl_yes s
        go_wp2_with fail
        refine (alive6_any _).mono ?_
        rintro e w8 ⟨rfl, b_⟩
        replace hB := hB.trans (b_.mono hB.size)
        clear b_
        go_wp2_with fail
        go_ret
        exact ⟨rfl, hB⟩
    · have Ea := Lib.hid (nmE_no (.inr hai))
      have ga0 : decide (1 ≤ (a : Int)) = true := by simp; omega
      have ga1 : decide ((a : Int) ≤ 34) = false := by simp; omega
      have ga2 : decide ((a : Int) ≥ 1) = true := by simp; omega
      have Eb := Lib.hid (nmE_no (.inl hbi))
      subst hbi
      go_enter Try.func4, Try.ntmps4
      go_wp2_with fail
      refine (name6_any a (by omega) _).mono ?_
      rintro e w1 ⟨rfl, b_⟩
      replace hB := hB.trans (b_.mono hB.size)
      clear b_
      rw [Ea.out]
      go_wp2_with fail
      refine (name6_any 0 (by omega) _).mono ?_
      rintro e w2 ⟨rfl, b_⟩
      replace hB := hB.trans (b_.mono hB.size)
      clear b_
      rw [Eb.out]
      go_wp2_with fail
      refine (op6_any s _).mono ?_
      rintro e w6 ⟨rfl, b_⟩
      replace hB := hB.trans (b_.mono hB.size)
      clear b_
      rcases nm_op s with ⟨e1, e2⟩ | ⟨i, e1, e2, i1, i2, i3⟩
      · rw [e1, e2]
        clear e1 e2
        go_wp2_with fail
        refine (alive6_any _).mono ?_
        rintro e w7 ⟨rfl, b_⟩
        replace hB := hB.trans (b_.mono hB.size)
        clear b_
        go_wp2_with fail
        go_ret
        exact ⟨rfl, hB⟩
      · rw [e1, e2]
        have I3 := Lib.hid i3
        have EI := Lib.hid (nmE_yes ⟨i1, i2⟩)
        clear e1 e2 i3
        go_wp2_with fail
        refine (name6_any i (by omega) _).mono ?_
        rintro e w7 ⟨rfl, b_⟩
        replace hB := hB.trans (b_.mono hB.size)
        clear b_
        rw [EI.out, I3.out]
        have q9 := tl_yes s
        go_wp2_with fail
        refine (alive6_any _).mono ?_
        rintro e w8 ⟨rfl, b_⟩
        replace hB := hB.trans (b_.mono hB.size)
        clear b_
        go_wp2_with fail
        go_ret
        exact ⟨rfl, hB⟩
    · have Ea := Lib.hid (nmE_no (.inr hai))
      have ga0 : decide (1 ≤ (a : Int)) = true := by simp; omega
      have ga1 : decide ((a : Int) ≤ 34) = false := by simp; omega
      have ga2 : decide ((a : Int) ≥ 1) = true := by simp; omega
      have Eb := Lib.hid (nmE_no (.inr hbi))
      have gb0 : decide (1 ≤ (b : Int)) = true := by simp; omega
      have gb1 : decide ((b : Int) ≤ 34) = false := by simp; omega
      have gb2 : decide ((b : Int) ≥ 1) = true := by simp; omega
      go_enter Try.func4, Try.ntmps4
      go_wp2_with fail
      refine (name6_any a (by omega) _).mono ?_
      rintro e w1 ⟨rfl, b_⟩
      replace hB := hB.trans (b_.mono hB.size)
      clear b_
      rw [Ea.out]
      go_wp2_with fail
      refine (name6_any b (by omega) _).mono ?_
      rintro e w2 ⟨rfl, b_⟩
      replace hB := hB.trans (b_.mono hB.size)
      clear b_
      rw [Eb.out]
      go_wp2_with fail
      refine (op6_any s _).mono ?_
      rintro e w6 ⟨rfl, b_⟩
      replace hB := hB.trans (b_.mono hB.size)
      clear b_
      rcases nm_op s with ⟨e1, e2⟩ | ⟨i, e1, e2, i1, i2, i3⟩
      · rw [e1, e2]
        clear e1 e2
        go_wp2_with fail
        refine (alive6_any _).mono ?_
        rintro e w7 ⟨rfl, b_⟩
        replace hB := hB.trans (b_.mono hB.size)
        clear b_
        go_wp2_with fail
        go_ret
        exact ⟨rfl, hB⟩
      · rw [e1, e2]
        have I3 := Lib.hid i3
        have EI := Lib.hid (nmE_yes ⟨i1, i2⟩)
        clear e1 e2 i3
        go_wp2_with fail
        refine (name6_any i (by omega) _).mono ?_
        rintro e w7 ⟨rfl, b_⟩
        replace hB := hB.trans (b_.mono hB.size)
        clear b_
        rw [EI.out, I3.out]
        have q9 := tl_yes s
        go_wp2_with fail
        refine (alive6_any _).mono ?_
        rintro e w8 ⟨rfl, b_⟩
        replace hB := hB.trans (b_.mono hB.size)
        clear b_
        go_wp2_with fail
        go_ret
        exact ⟨rfl, hB⟩

end Go.Proofs.Ytkhdeoihjnpnaaa
