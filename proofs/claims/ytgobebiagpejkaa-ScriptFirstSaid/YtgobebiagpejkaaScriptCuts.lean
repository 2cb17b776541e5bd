/- The walk of ScriptCuts. -/
import Derived.Test.YtgobebiagpejkaaScriptTells
namespace Go.Proofs.Ytgobebiagpejkaa
open Go.RowKit Wire
set_option linter.unusedVariables false

theorem sc_take {st sk hp rt : Int} {l : List Int} (h : scB st sk hp rt l = true) (q : Nat) : scB st sk hp rt (l.take q) = true := by
  have h0 := h
  simp only [scB, Bool.and_eq_true, decide_eq_true_eq, Bool.not_eq_true'] at h ⊢
  obtain ⟨h1, h2, h3⟩ := h
  refine ⟨h1, by rw [List.length_take]; omega, ?_⟩
  rw [List.any_eq_false] at h3 ⊢
  exact fun z hz => h3 z (List.mem_of_mem_take hz)
theorem sc_ok {st sk hp rt : Int} {l : List Int} (h : scB st sk hp rt l = true) : scE st sk hp rt l = 0 := by simp [scE, h]
def Rb' (w : World) (A : Option Addr) (n c : Nat) (l : List Int) : Prop := RdI w w.heap.size A n l ∧ n ≤ c
theorem cut_ok (A : Option Addr) (n c : Nat) (l : List Int) (st sk hp rt : Int) (q : Nat) (w : World) (hr : RdI w w.heap.size A n l) (hnc : n ≤ c) (hs : scB st sk hp rt l = true) (hq : q ≤ n) :
    Calls Try.prog 15 #[scr A n c st sk hp rt, .int .i64 (q : Int)] w fun e w' => ∃ A' c', e = .returned (.tuple #[scr A' q c' st sk hp rt, .int .i64 0]) ∧ (Rb' w' A' q c' (l.take q)) ∧ Below w.heap.size w w' := by
  have hl := hr.lenI
  have h5 := (sc_parts hs).2.2.2.2.1
  have he : ctE st sk hp rt l (q : Int) = 0 := by
    unfold ctE; rw [if_pos hs, if_pos (inB_true.2 (by omega))]
  have hL : ctL st sk hp rt l (q : Int) = l.take q := by unfold ctL; rw [if_pos he, Int.toNat_natCast]
  have hlen : (l.take q).length = q := by rw [List.length_take, hl]; omega
  have h := cut_any A n c l st sk hp rt (q : Int) w hr (by omega) hnc (by omega)
  rw [he, hL, hlen] at h
  refine h.mono fun e w' hh => ?_
  obtain ⟨A', c', h1, h2, h3⟩ := hh
  exact ⟨A', c', h1, ⟨own_reads h2, (own_cap h2).1⟩, h3⟩

set_option maxRecDepth 100000 in
set_option maxHeartbeats 8000000 in
theorem scriptCuts_walk (w : World) (A : Option Addr) (n c : Nat) (l : List Int) (st sk hp rt : Int) (hr : RdI w w.heap.size A n l) (hc : n ≤ c ∧ c ≤ 9223372036854775807) (hst : -9223372036854775808 ≤ st ∧ st ≤ 9223372036854775807) (hsk : -9223372036854775808 ≤ sk ∧ sk ≤ 9223372036854775807) (hhp : -9223372036854775808 ≤ hp ∧ hp ≤ 9223372036854775807) (hrt : -9223372036854775808 ≤ rt ∧ rt ≤ 9223372036854775807) (k : Int) (hkb : -9223372036854775808 ≤ k ∧ k ≤ 9223372036854775807) (m : Int) (hm : -9223372036854775808 ≤ m ∧ m ≤ 9223372036854775807) :
    Calls Try.prog 5 #[scr A n c st sk hp rt, .int .i64 k, .int .i64 m] w fun e w' => e = .returned (.bool true) ∧ Below w.heap.size w w' := by
  have hB : Below w.heap.size w (w.alloc (.cells #[.slice A n c, .int .i64 st, .int .i64 sk, .int .i64 hp, .int .i64 rt] 31)) := Ext.al w _
  have hk := Blk.new w 31 #[.slice A n c, .int .i64 st, .int .i64 sk, .int .i64 hp, .int .i64 rt]
  have R := hr.mv hB
  have HL := Lib.hid hr.lenI
  clear hr
  have hnc := hc.1
  have hn' : n ≤ 9223372036854775807 := by omega
  have HCK := Lib.hid (fun W (h : RdI W W.heap.size A n l) => recheck11_any A n c l st sk hp rt W h hn')
  by_cases hg : grB n = true
  · have HG := Lib.hid hg
    clear hg
    go_enter Try.func5, Try.ntmps5
    go_wp2_with fail
    refine (great11_any A n c st sk hp rt _).mono ?_
    rintro e w2 ⟨rfl, b⟩
    rw [HG.out]
    replace hk := hk.below b hk.lt
    replace R := R.mv b
    replace hB := hB.trans (b.mono hB.size)
    clear b

    go_wp2_with (go_at_call 11; refine (alive11_any _).mono ?_; rintro e w7 ⟨rfl, hb7⟩)
    go_ret
    exact ⟨rfl, hB.trans (hb7.mono hB.size)⟩

  have HG := Lib.hid (show grB n = false from by simpa using hg)
  have hn2 : n ≤ 2100 := by
    have h := HG.out
    simp [grB] at h
    omega
  clear hg
  cases hs : scB st sk hp rt l
  · have HE := Lib.hid (show scE st sk hp rt l = 8 from by simp [scE, hs])
    clear hs
    go_enter Try.func5, Try.ntmps5
    go_wp2_with fail
    refine (great11_any A n c st sk hp rt _).mono ?_
    rintro e w2 ⟨rfl, b⟩
    rw [HG.out]
    replace hk := hk.below b hk.lt
    replace R := R.mv b
    replace hB := hB.trans (b.mono hB.size)
    clear b
    have z0 : w2.cell? ⟨w.heap.size, 0, none⟩ = some (.slice A n c) := (hk.cell 0).trans rfl
    have z1 : w2.cell? ⟨w.heap.size, 1, none⟩ = some (.int .i64 st) := (hk.cell 1).trans rfl
    have z2 : w2.cell? ⟨w.heap.size, 2, none⟩ = some (.int .i64 sk) := (hk.cell 2).trans rfl
    have z3 : w2.cell? ⟨w.heap.size, 3, none⟩ = some (.int .i64 hp) := (hk.cell 3).trans rfl
    have z4 : w2.cell? ⟨w.heap.size, 4, none⟩ = some (.int .i64 rt) := (hk.cell 4).trans rfl
    go_wp2_with fail
    refine (HCK.out _ R).mono ?_
    rintro e w3 ⟨rfl, b⟩
    rw [HE.out]
    replace hk := hk.below b hk.lt
    replace R := R.mv b
    replace hB := hB.trans (b.mono hB.size)
    clear b z0 z1 z2 z3 z4
    have z0 : w3.cell? ⟨w.heap.size, 0, none⟩ = some (.slice A n c) := (hk.cell 0).trans rfl
    have z1 : w3.cell? ⟨w.heap.size, 1, none⟩ = some (.int .i64 st) := (hk.cell 1).trans rfl
    have z2 : w3.cell? ⟨w.heap.size, 2, none⟩ = some (.int .i64 sk) := (hk.cell 2).trans rfl
    have z3 : w3.cell? ⟨w.heap.size, 3, none⟩ = some (.int .i64 hp) := (hk.cell 3).trans rfl
    have z4 : w3.cell? ⟨w.heap.size, 4, none⟩ = some (.int .i64 rt) := (hk.cell 4).trans rfl

    go_wp2_with (go_at_call 11; refine (alive11_any _).mono ?_; rintro e w7 ⟨rfl, hb7⟩)
    go_ret
    exact ⟨rfl, hB.trans (hb7.mono hB.size)⟩

  have HE := Lib.hid (sc_ok hs)
  by_cases g0 : m < 0
  · have d0 : decide (m < 0) = true := by simpa using g0
    go_enter Try.func5, Try.ntmps5
    go_wp2_with fail
    refine (great11_any A n c st sk hp rt _).mono ?_
    rintro e w2 ⟨rfl, b⟩
    rw [HG.out]
    replace hk := hk.below b hk.lt
    replace R := R.mv b
    replace hB := hB.trans (b.mono hB.size)
    clear b
    have z0 : w2.cell? ⟨w.heap.size, 0, none⟩ = some (.slice A n c) := (hk.cell 0).trans rfl
    have z1 : w2.cell? ⟨w.heap.size, 1, none⟩ = some (.int .i64 st) := (hk.cell 1).trans rfl
    have z2 : w2.cell? ⟨w.heap.size, 2, none⟩ = some (.int .i64 sk) := (hk.cell 2).trans rfl
    have z3 : w2.cell? ⟨w.heap.size, 3, none⟩ = some (.int .i64 hp) := (hk.cell 3).trans rfl
    have z4 : w2.cell? ⟨w.heap.size, 4, none⟩ = some (.int .i64 rt) := (hk.cell 4).trans rfl
    go_wp2_with fail
    refine (HCK.out _ R).mono ?_
    rintro e w3 ⟨rfl, b⟩
    rw [HE.out]
    replace hk := hk.below b hk.lt
    replace R := R.mv b
    replace hB := hB.trans (b.mono hB.size)
    clear b z0 z1 z2 z3 z4
    have z0 : w3.cell? ⟨w.heap.size, 0, none⟩ = some (.slice A n c) := (hk.cell 0).trans rfl
    have z1 : w3.cell? ⟨w.heap.size, 1, none⟩ = some (.int .i64 st) := (hk.cell 1).trans rfl
    have z2 : w3.cell? ⟨w.heap.size, 2, none⟩ = some (.int .i64 sk) := (hk.cell 2).trans rfl
    have z3 : w3.cell? ⟨w.heap.size, 3, none⟩ = some (.int .i64 hp) := (hk.cell 3).trans rfl
    have z4 : w3.cell? ⟨w.heap.size, 4, none⟩ = some (.int .i64 rt) := (hk.cell 4).trans rfl

    go_wp2_with (go_at_call 11; refine (alive11_any _).mono ?_; rintro e w7 ⟨rfl, hb7⟩)
    go_ret
    exact ⟨rfl, hB.trans (hb7.mono hB.size)⟩

  have d0 : decide (m < 0) = false := by simpa using g0
  by_cases g1 : k < m
  · have d1 : decide (k < m) = true := by simpa using g1
    go_enter Try.func5, Try.ntmps5
    go_wp2_with fail
    refine (great11_any A n c st sk hp rt _).mono ?_
    rintro e w2 ⟨rfl, b⟩
    rw [HG.out]
    replace hk := hk.below b hk.lt
    replace R := R.mv b
    replace hB := hB.trans (b.mono hB.size)
    clear b
    have z0 : w2.cell? ⟨w.heap.size, 0, none⟩ = some (.slice A n c) := (hk.cell 0).trans rfl
    have z1 : w2.cell? ⟨w.heap.size, 1, none⟩ = some (.int .i64 st) := (hk.cell 1).trans rfl
    have z2 : w2.cell? ⟨w.heap.size, 2, none⟩ = some (.int .i64 sk) := (hk.cell 2).trans rfl
    have z3 : w2.cell? ⟨w.heap.size, 3, none⟩ = some (.int .i64 hp) := (hk.cell 3).trans rfl
    have z4 : w2.cell? ⟨w.heap.size, 4, none⟩ = some (.int .i64 rt) := (hk.cell 4).trans rfl
    go_wp2_with fail
    refine (HCK.out _ R).mono ?_
    rintro e w3 ⟨rfl, b⟩
    rw [HE.out]
    replace hk := hk.below b hk.lt
    replace R := R.mv b
    replace hB := hB.trans (b.mono hB.size)
    clear b z0 z1 z2 z3 z4
    have z0 : w3.cell? ⟨w.heap.size, 0, none⟩ = some (.slice A n c) := (hk.cell 0).trans rfl
    have z1 : w3.cell? ⟨w.heap.size, 1, none⟩ = some (.int .i64 st) := (hk.cell 1).trans rfl
    have z2 : w3.cell? ⟨w.heap.size, 2, none⟩ = some (.int .i64 sk) := (hk.cell 2).trans rfl
    have z3 : w3.cell? ⟨w.heap.size, 3, none⟩ = some (.int .i64 hp) := (hk.cell 3).trans rfl
    have z4 : w3.cell? ⟨w.heap.size, 4, none⟩ = some (.int .i64 rt) := (hk.cell 4).trans rfl

    go_wp2_with (go_at_call 11; refine (alive11_any _).mono ?_; rintro e w7 ⟨rfl, hb7⟩)
    go_ret
    exact ⟨rfl, hB.trans (hb7.mono hB.size)⟩

  have d1 : decide (k < m) = false := by simpa using g1
  by_cases g2 : (n : Int) < k
  · have d2 : decide ((n : Int) < k) = true := by simpa using g2
    go_enter Try.func5, Try.ntmps5
    go_wp2_with fail
    refine (great11_any A n c st sk hp rt _).mono ?_
    rintro e w2 ⟨rfl, b⟩
    rw [HG.out]
    replace hk := hk.below b hk.lt
    replace R := R.mv b
    replace hB := hB.trans (b.mono hB.size)
    clear b
    have z0 : w2.cell? ⟨w.heap.size, 0, none⟩ = some (.slice A n c) := (hk.cell 0).trans rfl
    have z1 : w2.cell? ⟨w.heap.size, 1, none⟩ = some (.int .i64 st) := (hk.cell 1).trans rfl
    have z2 : w2.cell? ⟨w.heap.size, 2, none⟩ = some (.int .i64 sk) := (hk.cell 2).trans rfl
    have z3 : w2.cell? ⟨w.heap.size, 3, none⟩ = some (.int .i64 hp) := (hk.cell 3).trans rfl
    have z4 : w2.cell? ⟨w.heap.size, 4, none⟩ = some (.int .i64 rt) := (hk.cell 4).trans rfl
    go_wp2_with fail
    refine (HCK.out _ R).mono ?_
    rintro e w3 ⟨rfl, b⟩
    rw [HE.out]
    replace hk := hk.below b hk.lt
    replace R := R.mv b
    replace hB := hB.trans (b.mono hB.size)
    clear b z0 z1 z2 z3 z4
    have z0 : w3.cell? ⟨w.heap.size, 0, none⟩ = some (.slice A n c) := (hk.cell 0).trans rfl
    have z1 : w3.cell? ⟨w.heap.size, 1, none⟩ = some (.int .i64 st) := (hk.cell 1).trans rfl
    have z2 : w3.cell? ⟨w.heap.size, 2, none⟩ = some (.int .i64 sk) := (hk.cell 2).trans rfl
    have z3 : w3.cell? ⟨w.heap.size, 3, none⟩ = some (.int .i64 hp) := (hk.cell 3).trans rfl
    have z4 : w3.cell? ⟨w.heap.size, 4, none⟩ = some (.int .i64 rt) := (hk.cell 4).trans rfl

    go_wp2_with (go_at_call 11; refine (alive11_any _).mono ?_; rintro e w7 ⟨rfl, hb7⟩)
    go_ret
    exact ⟨rfl, hB.trans (hb7.mono hB.size)⟩

  have d2 : decide ((n : Int) < k) = false := by simpa using g2
  obtain ⟨q, rfl⟩ : ∃ q : Nat, k = (q : Int) := ⟨k.toNat, by omega⟩
  obtain ⟨r, rfl⟩ : ∃ r : Nat, m = (r : Int) := ⟨m.toNat, by omega⟩
  have hqn : q ≤ n := by omega
  have hrq : r ≤ q := by omega
  have hrn : r ≤ n := by omega
  have HC1 := Lib.hid (fun W (h : RdI W W.heap.size A n l) => cut_ok A n c l st sk hp rt q W h hnc hs hqn)
  have HC2 := Lib.hid (fun W (h : RdI W W.heap.size A n l) => cut_ok A n c l st sk hp rt r W h hnc hs hrn)
  have HC3 := Lib.hid (fun A' c' W (h : RdI W W.heap.size A' q (l.take q)) (hc' : q ≤ c') => cut_ok A' q c' (l.take q) st sk hp rt r W h hc' (sc_take hs q) hrq)
  rw [show (l.take q).take r = l.take r from by rw [List.take_take, Nat.min_eq_left hrq]] at HC3
  have HE3 := Lib.hid (sc_ok (sc_take hs q))
  have HFT := Lib.hid (fun W (h : RdI W W.heap.size A n l) => show RdI W W.heap.size A q (l.take q) from by
    have h2 := Reads.first h hqn
    rw [Nat.mul_one, ← List.map_take] at h2
    exact h2)
  clear hs
  have qc0 : (0 : Int) ≤ (q : Int) := by omega
  have qc1 : (q : Int) ≤ (c : Int) := by omega
  have dn1 : decide ((q : Int) < (r : Int)) = false := by simp; omega
  have dn2 : decide (q < r) = false := by simp; omega
  have dn3 : decide (n < q) = false := by simp; omega
  generalize hlq : l.take q = lq at *
  generalize hlr : l.take r = lr at *
  have HXX := Lib.hid (And.intro hlq hlr)
  clear hlq hlr
  go_enter Try.func5, Try.ntmps5
  go_wp2_with fail
  refine (great11_any A n c st sk hp rt _).mono ?_
  rintro e w2 ⟨rfl, b⟩
  rw [HG.out]
  replace hk := hk.below b hk.lt
  replace R := R.mv b
  replace hB := hB.trans (b.mono hB.size)
  clear b
  have z0 : w2.cell? ⟨w.heap.size, 0, none⟩ = some (.slice A n c) := (hk.cell 0).trans rfl
  have z1 : w2.cell? ⟨w.heap.size, 1, none⟩ = some (.int .i64 st) := (hk.cell 1).trans rfl
  have z2 : w2.cell? ⟨w.heap.size, 2, none⟩ = some (.int .i64 sk) := (hk.cell 2).trans rfl
  have z3 : w2.cell? ⟨w.heap.size, 3, none⟩ = some (.int .i64 hp) := (hk.cell 3).trans rfl
  have z4 : w2.cell? ⟨w.heap.size, 4, none⟩ = some (.int .i64 rt) := (hk.cell 4).trans rfl
  go_wp2_with fail
  refine (HCK.out _ R).mono ?_
  rintro e w3 ⟨rfl, b⟩
  rw [HE.out]
  replace hk := hk.below b hk.lt
  replace R := R.mv b
  replace hB := hB.trans (b.mono hB.size)
  clear b z0 z1 z2 z3 z4
  have z0 : w3.cell? ⟨w.heap.size, 0, none⟩ = some (.slice A n c) := (hk.cell 0).trans rfl
  have z1 : w3.cell? ⟨w.heap.size, 1, none⟩ = some (.int .i64 st) := (hk.cell 1).trans rfl
  have z2 : w3.cell? ⟨w.heap.size, 2, none⟩ = some (.int .i64 sk) := (hk.cell 2).trans rfl
  have z3 : w3.cell? ⟨w.heap.size, 3, none⟩ = some (.int .i64 hp) := (hk.cell 3).trans rfl
  have z4 : w3.cell? ⟨w.heap.size, 4, none⟩ = some (.int .i64 rt) := (hk.cell 4).trans rfl
  go_wp2_with fail
  clear z0 z1 z2 z3 z4
  refine (HC1.out _ R).mono ?_
  rintro e w4 ⟨A3, c3, rfl, ⟨R3, hc3⟩, b⟩
  replace R := R.mv b
  replace hk := hk.below b hk.lt
  replace hB := hB.trans (b.mono hB.size)
  clear b
  have b := Ext.al w4 (.cells #[.slice A3 q c3, .int .i64 st, .int .i64 sk, .int .i64 hp, .int .i64 rt] 31)
  have h7 := Blk.new w4 31 #[.slice A3 q c3, .int .i64 st, .int .i64 sk, .int .i64 hp, .int .i64 rt]
  have o_hk_h7 := hk.lt
  replace R := R.mv b
  replace R3 := R3.mv b
  replace hk := hk.below b hk.lt
  replace hB := hB.trans (b.mono hB.size)
  clear b
  have z1 : (w4.alloc (.cells #[.slice A3 q c3, .int .i64 st, .int .i64 sk, .int .i64 hp, .int .i64 rt] 31)).cell? ⟨w4.heap.size, 0, none⟩ = some (.slice A3 q c3) := (h7.cell 0).trans rfl
  have z2 : (w4.alloc (.cells #[.slice A3 q c3, .int .i64 st, .int .i64 sk, .int .i64 hp, .int .i64 rt] 31)).cell? ⟨w4.heap.size, 1, none⟩ = some (.int .i64 st) := (h7.cell 1).trans rfl
  have z3 : (w4.alloc (.cells #[.slice A3 q c3, .int .i64 st, .int .i64 sk, .int .i64 hp, .int .i64 rt] 31)).cell? ⟨w4.heap.size, 2, none⟩ = some (.int .i64 sk) := (h7.cell 2).trans rfl
  have z4 : (w4.alloc (.cells #[.slice A3 q c3, .int .i64 st, .int .i64 sk, .int .i64 hp, .int .i64 rt] 31)).cell? ⟨w4.heap.size, 3, none⟩ = some (.int .i64 hp) := (h7.cell 3).trans rfl
  have z5 : (w4.alloc (.cells #[.slice A3 q c3, .int .i64 st, .int .i64 sk, .int .i64 hp, .int .i64 rt] 31)).cell? ⟨w4.heap.size, 4, none⟩ = some (.int .i64 rt) := (h7.cell 4).trans rfl
  go_wp2_with fail
  clear z1 z2 z3 z4 z5
  generalize w4.alloc (.cells #[.slice A3 q c3, .int .i64 st, .int .i64 sk, .int .i64 hp, .int .i64 rt] 31) = w5 at *
  generalize w4.heap.size = p7 at *
  refine (HC3.out _ _ _ R3 hc3).mono ?_
  rintro e w6 ⟨A4, c4, rfl, ⟨R4, hc4⟩, b⟩
  replace R := R.mv b
  replace R3 := R3.mv b
  replace hk := hk.below b hk.lt
  replace h7 := h7.below b h7.lt
  replace hB := hB.trans (b.mono hB.size)
  clear b
  have b := Ext.al w6 (.cells #[.slice A4 r c4, .int .i64 st, .int .i64 sk, .int .i64 hp, .int .i64 rt] 31)
  have h9 := Blk.new w6 31 #[.slice A4 r c4, .int .i64 st, .int .i64 sk, .int .i64 hp, .int .i64 rt]
  have o_hk_h9 := hk.lt
  have o_h7_h9 := h7.lt
  replace R := R.mv b
  replace R3 := R3.mv b
  replace R4 := R4.mv b
  replace hk := hk.below b hk.lt
  replace h7 := h7.below b h7.lt
  replace hB := hB.trans (b.mono hB.size)
  clear b
  have z6 : (w6.alloc (.cells #[.slice A4 r c4, .int .i64 st, .int .i64 sk, .int .i64 hp, .int .i64 rt] 31)).cell? ⟨w.heap.size, 0, none⟩ = some (.slice A n c) := (hk.cell 0).trans rfl
  have z7 : (w6.alloc (.cells #[.slice A4 r c4, .int .i64 st, .int .i64 sk, .int .i64 hp, .int .i64 rt] 31)).cell? ⟨w.heap.size, 1, none⟩ = some (.int .i64 st) := (hk.cell 1).trans rfl
  have z8 : (w6.alloc (.cells #[.slice A4 r c4, .int .i64 st, .int .i64 sk, .int .i64 hp, .int .i64 rt] 31)).cell? ⟨w.heap.size, 2, none⟩ = some (.int .i64 sk) := (hk.cell 2).trans rfl
  have z9 : (w6.alloc (.cells #[.slice A4 r c4, .int .i64 st, .int .i64 sk, .int .i64 hp, .int .i64 rt] 31)).cell? ⟨w.heap.size, 3, none⟩ = some (.int .i64 hp) := (hk.cell 3).trans rfl
  have z10 : (w6.alloc (.cells #[.slice A4 r c4, .int .i64 st, .int .i64 sk, .int .i64 hp, .int .i64 rt] 31)).cell? ⟨w.heap.size, 4, none⟩ = some (.int .i64 rt) := (hk.cell 4).trans rfl
  go_wp2_with fail
  clear z6 z7 z8 z9 z10
  generalize w6.alloc (.cells #[.slice A4 r c4, .int .i64 st, .int .i64 sk, .int .i64 hp, .int .i64 rt] 31) = w7 at *
  generalize w6.heap.size = p9 at *
  refine (HC2.out _ R).mono ?_
  rintro e w8 ⟨A5, c5, rfl, ⟨R5, hc5⟩, b⟩
  replace R := R.mv b
  replace R3 := R3.mv b
  replace R4 := R4.mv b
  replace hk := hk.below b hk.lt
  replace h7 := h7.below b h7.lt
  replace h9 := h9.below b h9.lt
  replace hB := hB.trans (b.mono hB.size)
  clear b
  have b := Ext.al w8 (.cells #[.slice A5 r c5, .int .i64 st, .int .i64 sk, .int .i64 hp, .int .i64 rt] 31)
  have h11 := Blk.new w8 31 #[.slice A5 r c5, .int .i64 st, .int .i64 sk, .int .i64 hp, .int .i64 rt]
  have o_hk_h11 := hk.lt
  have o_h7_h11 := h7.lt
  have o_h9_h11 := h9.lt
  replace R := R.mv b
  replace R3 := R3.mv b
  replace R4 := R4.mv b
  replace R5 := R5.mv b
  replace hk := hk.below b hk.lt
  replace h7 := h7.below b h7.lt
  replace h9 := h9.below b h9.lt
  replace hB := hB.trans (b.mono hB.size)
  clear b
  have z11 : (w8.alloc (.cells #[.slice A5 r c5, .int .i64 st, .int .i64 sk, .int .i64 hp, .int .i64 rt] 31)).cell? ⟨p9, 0, none⟩ = some (.slice A4 r c4) := (h9.cell 0).trans rfl
  have z12 : (w8.alloc (.cells #[.slice A5 r c5, .int .i64 st, .int .i64 sk, .int .i64 hp, .int .i64 rt] 31)).cell? ⟨p9, 1, none⟩ = some (.int .i64 st) := (h9.cell 1).trans rfl
  have z13 : (w8.alloc (.cells #[.slice A5 r c5, .int .i64 st, .int .i64 sk, .int .i64 hp, .int .i64 rt] 31)).cell? ⟨p9, 2, none⟩ = some (.int .i64 sk) := (h9.cell 2).trans rfl
  have z14 : (w8.alloc (.cells #[.slice A5 r c5, .int .i64 st, .int .i64 sk, .int .i64 hp, .int .i64 rt] 31)).cell? ⟨p9, 3, none⟩ = some (.int .i64 hp) := (h9.cell 3).trans rfl
  have z15 : (w8.alloc (.cells #[.slice A5 r c5, .int .i64 st, .int .i64 sk, .int .i64 hp, .int .i64 rt] 31)).cell? ⟨p9, 4, none⟩ = some (.int .i64 rt) := (h9.cell 4).trans rfl
  have z16 : (w8.alloc (.cells #[.slice A5 r c5, .int .i64 st, .int .i64 sk, .int .i64 hp, .int .i64 rt] 31)).cell? ⟨w8.heap.size, 0, none⟩ = some (.slice A5 r c5) := (h11.cell 0).trans rfl
  have z17 : (w8.alloc (.cells #[.slice A5 r c5, .int .i64 st, .int .i64 sk, .int .i64 hp, .int .i64 rt] 31)).cell? ⟨w8.heap.size, 1, none⟩ = some (.int .i64 st) := (h11.cell 1).trans rfl
  have z18 : (w8.alloc (.cells #[.slice A5 r c5, .int .i64 st, .int .i64 sk, .int .i64 hp, .int .i64 rt] 31)).cell? ⟨w8.heap.size, 2, none⟩ = some (.int .i64 sk) := (h11.cell 2).trans rfl
  have z19 : (w8.alloc (.cells #[.slice A5 r c5, .int .i64 st, .int .i64 sk, .int .i64 hp, .int .i64 rt] 31)).cell? ⟨w8.heap.size, 3, none⟩ = some (.int .i64 hp) := (h11.cell 3).trans rfl
  have z20 : (w8.alloc (.cells #[.slice A5 r c5, .int .i64 st, .int .i64 sk, .int .i64 hp, .int .i64 rt] 31)).cell? ⟨w8.heap.size, 4, none⟩ = some (.int .i64 rt) := (h11.cell 4).trans rfl
  go_wp2_with fail
  clear z11 z12 z13 z14 z15 z16 z17 z18 z19 z20
  generalize w8.alloc (.cells #[.slice A5 r c5, .int .i64 st, .int .i64 sk, .int .i64 hp, .int .i64 rt] 31) = w9 at *
  generalize w8.heap.size = p11 at *
  refine (same11_any A4 r c4 lr st sk hp rt A5 r c5 lr st sk hp rt _ R4 R5 (by omega)).mono ?_
  rintro e w10 ⟨rfl, b⟩
  rw [sm_refl]
  replace R := R.mv b
  replace R3 := R3.mv b
  replace R4 := R4.mv b
  replace R5 := R5.mv b
  replace hk := hk.below b hk.lt
  replace h7 := h7.below b h7.lt
  replace h9 := h9.below b h9.lt
  replace h11 := h11.below b h11.lt
  replace hB := hB.trans (b.mono hB.size)
  clear b
  have z21 : w10.cell? ⟨w.heap.size, 0, none⟩ = some (.slice A n c) := (hk.cell 0).trans rfl
  have z22 : w10.cell? ⟨w.heap.size, 1, none⟩ = some (.int .i64 st) := (hk.cell 1).trans rfl
  have z23 : w10.cell? ⟨w.heap.size, 2, none⟩ = some (.int .i64 sk) := (hk.cell 2).trans rfl
  have z24 : w10.cell? ⟨w.heap.size, 3, none⟩ = some (.int .i64 hp) := (hk.cell 3).trans rfl
  have z25 : w10.cell? ⟨w.heap.size, 4, none⟩ = some (.int .i64 rt) := (hk.cell 4).trans rfl
  have z26 : w10.cell? ⟨p7, 0, none⟩ = some (.slice A3 q c3) := (h7.cell 0).trans rfl
  have z27 : w10.cell? ⟨p7, 1, none⟩ = some (.int .i64 st) := (h7.cell 1).trans rfl
  have z28 : w10.cell? ⟨p7, 2, none⟩ = some (.int .i64 sk) := (h7.cell 2).trans rfl
  have z29 : w10.cell? ⟨p7, 3, none⟩ = some (.int .i64 hp) := (h7.cell 3).trans rfl
  have z30 : w10.cell? ⟨p7, 4, none⟩ = some (.int .i64 rt) := (h7.cell 4).trans rfl
  go_wp2_with fail
  clear z21 z22 z23 z24 z25 z26 z27 z28 z29 z30
  refine ext_start (by kernel_rfl) (by repeat (first | exact calm_body | apply calm_then | apply calm_block)) (fun hQ => ?_)
  have b := (Ext.refl w10).draw
  replace R := R.mv b
  replace R3 := R3.mv b
  replace R4 := R4.mv b
  replace R5 := R5.mv b
  replace hk := hk.below b hk.lt
  replace h7 := h7.below b h7.lt
  replace h9 := h9.below b h9.lt
  replace h11 := h11.below b h11.lt
  replace hB := hB.trans (b.mono hB.size)
  clear b
  generalize w10.drew = x1 at *
  have X31 : ∀ W, Ext x1 W → W.cell? ⟨w.heap.size, 0, none⟩ = some (.slice A n c) := fun W h => ((hk.below h hk.lt).cell 0).trans rfl
  have X32 : ∀ W, Ext x1 W → W.cell? ⟨w.heap.size, 1, none⟩ = some (.int .i64 st) := fun W h => ((hk.below h hk.lt).cell 1).trans rfl
  have X33 : ∀ W, Ext x1 W → W.cell? ⟨w.heap.size, 2, none⟩ = some (.int .i64 sk) := fun W h => ((hk.below h hk.lt).cell 2).trans rfl
  have X34 : ∀ W, Ext x1 W → W.cell? ⟨w.heap.size, 3, none⟩ = some (.int .i64 hp) := fun W h => ((hk.below h hk.lt).cell 3).trans rfl
  have X35 : ∀ W, Ext x1 W → W.cell? ⟨w.heap.size, 4, none⟩ = some (.int .i64 rt) := fun W h => ((hk.below h hk.lt).cell 4).trans rfl
  have X36 : ∀ W, Ext x1 W → W.cell? ⟨p7, 0, none⟩ = some (.slice A3 q c3) := fun W h => ((h7.below h h7.lt).cell 0).trans rfl
  have X37 : ∀ W, Ext x1 W → W.cell? ⟨p7, 1, none⟩ = some (.int .i64 st) := fun W h => ((h7.below h h7.lt).cell 1).trans rfl
  have X38 : ∀ W, Ext x1 W → W.cell? ⟨p7, 2, none⟩ = some (.int .i64 sk) := fun W h => ((h7.below h h7.lt).cell 2).trans rfl
  have X39 : ∀ W, Ext x1 W → W.cell? ⟨p7, 3, none⟩ = some (.int .i64 hp) := fun W h => ((h7.below h h7.lt).cell 3).trans rfl
  have X40 : ∀ W, Ext x1 W → W.cell? ⟨p7, 4, none⟩ = some (.int .i64 rt) := fun W h => ((h7.below h h7.lt).cell 4).trans rfl
  refine ext_take (i := 0) (oi := ?oia0) (v := ?va0) ?hia0 (by kernel_rfl) (by kernel_rfl) (by kernel_rfl) hQ ?hwa0 ?hya0 ?resta0
  case hia0 => simp only [List.getElem?_toArray, List.getElem?_cons_zero]; rfl
  case hwa0 => rfl
  case hya0 => intro W hW; go_simp; with_reducible rfl
  simp only [Act.put, List.setIfInBounds_toArray, List.set_cons_zero, List.set_cons_succ]
  refine ext_take (i := 1) (oi := ?oia1) (v := ?va1) ?hia1 (by kernel_rfl) (by kernel_rfl) (by kernel_rfl) hQ ?hwa1 ?hya1 ?resta1
  case hia1 => simp only [List.getElem?_toArray, List.getElem?_cons_zero, List.getElem?_cons_succ]; rfl
  case hwa1 => rfl
  case hya1 => intro W hW; go_simp; with_reducible rfl
  simp only [Act.put, List.setIfInBounds_toArray, List.set_cons_zero, List.set_cons_succ]
  refine ext_take (i := 2) (oi := ?oia2) (v := ?va2) ?hia2 (by kernel_rfl) (by kernel_rfl) (by kernel_rfl) hQ ?hwa2 ?hya2 ?resta2
  case hia2 => simp only [List.getElem?_toArray, List.getElem?_cons_zero, List.getElem?_cons_succ]; rfl
  case hwa2 => rfl
  case hya2 => intro W hW; go_simp; with_reducible rfl
  simp only [Act.put, List.setIfInBounds_toArray, List.set_cons_zero, List.set_cons_succ]
  refine ext_take (i := 3) (oi := ?oia3) (v := ?va3) ?hia3 (by kernel_rfl) (by kernel_rfl) (by kernel_rfl) hQ ?hwa3 ?hya3 ?resta3
  case hia3 => simp only [List.getElem?_toArray, List.getElem?_cons_zero, List.getElem?_cons_succ]; rfl
  case hwa3 => rfl
  case hya3 => intro W hW; go_simp; with_reducible rfl
  simp only [Act.put, List.setIfInBounds_toArray, List.set_cons_zero, List.set_cons_succ]
  refine ext_take (i := 4) (oi := ?oia4) (v := ?va4) ?hia4 (by kernel_rfl) (by kernel_rfl) (by kernel_rfl) hQ ?hwa4 ?hya4 ?resta4
  case hia4 => simp only [List.getElem?_toArray, List.getElem?_cons_zero, List.getElem?_cons_succ]; rfl
  case hwa4 => rfl
  case hya4 => intro W hW; go_simp; with_reducible rfl
  simp only [Act.put, List.setIfInBounds_toArray, List.set_cons_zero, List.set_cons_succ]
  refine ext_take (i := 5) (oi := ?oia5) (v := ?va5) ?hia5 (by kernel_rfl) (by kernel_rfl) (by kernel_rfl) hQ ?hwa5 ?hya5 ?resta5
  case hia5 => simp only [List.getElem?_toArray, List.getElem?_cons_zero, List.getElem?_cons_succ]; rfl
  case hwa5 => rfl
  case hya5 => intro W hW; go_simp; with_reducible rfl
  simp only [Act.put, List.setIfInBounds_toArray, List.set_cons_zero, List.set_cons_succ]
  refine ext_step (i := 6) (oi := ?oia6) (by kernel_rfl) ?hia6 ?hwa6 (fun K hK => ?_)
  case hia6 => simp only [List.getElem?_toArray, List.getElem?_cons_zero, List.getElem?_cons_succ]; rfl
  case hwa6 => rfl
  go_simp
  refine (sameInts_any A3 q c3 lq A q c lq _ R3 (HFT.out _ R) (by omega)).mono ?_; rintro e x2 ⟨rfl, b⟩; rw [show decide (lq = lq) = true from by simp]; replace R := R.mv b; replace R3 := R3.mv b; replace R4 := R4.mv b; replace R5 := R5.mv b; replace hk := hk.below b hk.lt; replace h7 := h7.below b h7.lt; replace h9 := h9.below b h9.lt; replace h11 := h11.below b h11.lt; replace hB := hB.trans (b.mono hB.size); have X41 : ∀ W, Ext x2 W → W.cell? ⟨w.heap.size, 0, none⟩ = some (.slice A n c) := fun W h => ((hk.below h hk.lt).cell 0).trans rfl; have X42 : ∀ W, Ext x2 W → W.cell? ⟨w.heap.size, 1, none⟩ = some (.int .i64 st) := fun W h => ((hk.below h hk.lt).cell 1).trans rfl; have X43 : ∀ W, Ext x2 W → W.cell? ⟨w.heap.size, 2, none⟩ = some (.int .i64 sk) := fun W h => ((hk.below h hk.lt).cell 2).trans rfl; have X44 : ∀ W, Ext x2 W → W.cell? ⟨w.heap.size, 3, none⟩ = some (.int .i64 hp) := fun W h => ((hk.below h hk.lt).cell 3).trans rfl; have X45 : ∀ W, Ext x2 W → W.cell? ⟨w.heap.size, 4, none⟩ = some (.int .i64 rt) := fun W h => ((hk.below h hk.lt).cell 4).trans rfl; have X46 : ∀ W, Ext x2 W → W.cell? ⟨p7, 0, none⟩ = some (.slice A3 q c3) := fun W h => ((h7.below h h7.lt).cell 0).trans rfl; have X47 : ∀ W, Ext x2 W → W.cell? ⟨p7, 1, none⟩ = some (.int .i64 st) := fun W h => ((h7.below h h7.lt).cell 1).trans rfl; have X48 : ∀ W, Ext x2 W → W.cell? ⟨p7, 2, none⟩ = some (.int .i64 sk) := fun W h => ((h7.below h h7.lt).cell 2).trans rfl; have X49 : ∀ W, Ext x2 W → W.cell? ⟨p7, 3, none⟩ = some (.int .i64 hp) := fun W h => ((h7.below h h7.lt).cell 3).trans rfl; have X50 : ∀ W, Ext x2 W → W.cell? ⟨p7, 4, none⟩ = some (.int .i64 rt) := fun W h => ((h7.below h h7.lt).cell 4).trans rfl; refine hK _ _ b ?_
  try simp only [Act.put, List.setIfInBounds_toArray, List.set_cons_zero, List.set_cons_succ]
  refine ext_take (i := 7) (oi := ?oia7) (v := ?va7) ?hia7 (by kernel_rfl) (by kernel_rfl) (by kernel_rfl) hQ ?hwa7 ?hya7 ?resta7
  case hia7 => simp only [List.getElem?_toArray, List.getElem?_cons_zero, List.getElem?_cons_succ]; rfl
  case hwa7 => rfl
  case hya7 => intro W hW; go_simp; with_reducible rfl
  simp only [Act.put, List.setIfInBounds_toArray, List.set_cons_zero, List.set_cons_succ]
  refine ext_take (i := 8) (oi := ?oia8) (v := ?va8) ?hia8 (by kernel_rfl) (by kernel_rfl) (by kernel_rfl) hQ ?hwa8 ?hya8 ?resta8
  case hia8 => simp only [List.getElem?_toArray, List.getElem?_cons_zero, List.getElem?_cons_succ]; rfl
  case hwa8 => rfl
  case hya8 => intro W hW; go_simp; with_reducible rfl
  simp only [Act.put, List.setIfInBounds_toArray, List.set_cons_zero, List.set_cons_succ]
  refine ext_step (i := 9) (oi := ?oia9) (by kernel_rfl) ?hia9 ?hwa9 (fun K hK => ?_)
  case hia9 => simp only [List.getElem?_toArray, List.getElem?_cons_zero, List.getElem?_cons_succ]; rfl
  case hwa9 => rfl
  go_simp
  refine (check11_any A3 q c3 lq st sk hp rt _ R3 (by omega)).mono ?_; rintro e x3 ⟨rfl, b⟩; rw [HE3.out]; replace R := R.mv b; replace R3 := R3.mv b; replace R4 := R4.mv b; replace R5 := R5.mv b; replace hk := hk.below b hk.lt; replace h7 := h7.below b h7.lt; replace h9 := h9.below b h9.lt; replace h11 := h11.below b h11.lt; replace hB := hB.trans (b.mono hB.size); have X51 : ∀ W, Ext x3 W → W.cell? ⟨w.heap.size, 0, none⟩ = some (.slice A n c) := fun W h => ((hk.below h hk.lt).cell 0).trans rfl; have X52 : ∀ W, Ext x3 W → W.cell? ⟨w.heap.size, 1, none⟩ = some (.int .i64 st) := fun W h => ((hk.below h hk.lt).cell 1).trans rfl; have X53 : ∀ W, Ext x3 W → W.cell? ⟨w.heap.size, 2, none⟩ = some (.int .i64 sk) := fun W h => ((hk.below h hk.lt).cell 2).trans rfl; have X54 : ∀ W, Ext x3 W → W.cell? ⟨w.heap.size, 3, none⟩ = some (.int .i64 hp) := fun W h => ((hk.below h hk.lt).cell 3).trans rfl; have X55 : ∀ W, Ext x3 W → W.cell? ⟨w.heap.size, 4, none⟩ = some (.int .i64 rt) := fun W h => ((hk.below h hk.lt).cell 4).trans rfl; have X56 : ∀ W, Ext x3 W → W.cell? ⟨p7, 0, none⟩ = some (.slice A3 q c3) := fun W h => ((h7.below h h7.lt).cell 0).trans rfl; have X57 : ∀ W, Ext x3 W → W.cell? ⟨p7, 1, none⟩ = some (.int .i64 st) := fun W h => ((h7.below h h7.lt).cell 1).trans rfl; have X58 : ∀ W, Ext x3 W → W.cell? ⟨p7, 2, none⟩ = some (.int .i64 sk) := fun W h => ((h7.below h h7.lt).cell 2).trans rfl; have X59 : ∀ W, Ext x3 W → W.cell? ⟨p7, 3, none⟩ = some (.int .i64 hp) := fun W h => ((h7.below h h7.lt).cell 3).trans rfl; have X60 : ∀ W, Ext x3 W → W.cell? ⟨p7, 4, none⟩ = some (.int .i64 rt) := fun W h => ((h7.below h h7.lt).cell 4).trans rfl; refine hK _ _ b ?_
  try simp only [Act.put, List.setIfInBounds_toArray, List.set_cons_zero, List.set_cons_succ]
  refine ext_take (i := 10) (oi := ?oia10) (v := ?va10) ?hia10 (by kernel_rfl) (by kernel_rfl) (by kernel_rfl) hQ ?hwa10 ?hya10 ?resta10
  case hia10 => simp only [List.getElem?_toArray, List.getElem?_cons_zero, List.getElem?_cons_succ]; rfl
  case hwa10 => rfl
  case hya10 => intro W hW; go_simp; with_reducible rfl
  simp only [Act.put, List.setIfInBounds_toArray, List.set_cons_zero, List.set_cons_succ]
  refine ext_take (i := 11) (oi := ?oia11) (v := ?va11) ?hia11 (by kernel_rfl) (by kernel_rfl) (by kernel_rfl) hQ ?hwa11 ?hya11 ?resta11
  case hia11 => simp only [List.getElem?_toArray, List.getElem?_cons_zero, List.getElem?_cons_succ]; rfl
  case hwa11 => rfl
  case hya11 => intro W hW; go_simp; with_reducible rfl
  simp only [Act.put, List.setIfInBounds_toArray, List.set_cons_zero, List.set_cons_succ]
  refine ext_take (i := 12) (oi := ?oia12) (v := ?va12) ?hia12 (by kernel_rfl) (by kernel_rfl) (by kernel_rfl) hQ ?hwa12 ?hya12 ?resta12
  case hia12 => simp only [List.getElem?_toArray, List.getElem?_cons_zero, List.getElem?_cons_succ]; rfl
  case hwa12 => rfl
  case hya12 => intro W hW; go_simp; with_reducible rfl
  simp only [Act.put, List.setIfInBounds_toArray, List.set_cons_zero, List.set_cons_succ]
  refine ext_step (i := 13) (oi := ?oia13) (by kernel_rfl) ?hia13 ?hwa13 (fun K hK => ?_)
  case hia13 => simp only [List.getElem?_toArray, List.getElem?_cons_zero, List.getElem?_cons_succ]; rfl
  case hwa13 => rfl
  go_simp
  refine (alive11_any _).mono ?_; rintro e x4 ⟨rfl, b⟩; replace R := R.mv b; replace R3 := R3.mv b; replace R4 := R4.mv b; replace R5 := R5.mv b; replace hk := hk.below b hk.lt; replace h7 := h7.below b h7.lt; replace h9 := h9.below b h9.lt; replace h11 := h11.below b h11.lt; replace hB := hB.trans (b.mono hB.size); have X61 : ∀ W, Ext x4 W → W.cell? ⟨w.heap.size, 0, none⟩ = some (.slice A n c) := fun W h => ((hk.below h hk.lt).cell 0).trans rfl; have X62 : ∀ W, Ext x4 W → W.cell? ⟨w.heap.size, 1, none⟩ = some (.int .i64 st) := fun W h => ((hk.below h hk.lt).cell 1).trans rfl; have X63 : ∀ W, Ext x4 W → W.cell? ⟨w.heap.size, 2, none⟩ = some (.int .i64 sk) := fun W h => ((hk.below h hk.lt).cell 2).trans rfl; have X64 : ∀ W, Ext x4 W → W.cell? ⟨w.heap.size, 3, none⟩ = some (.int .i64 hp) := fun W h => ((hk.below h hk.lt).cell 3).trans rfl; have X65 : ∀ W, Ext x4 W → W.cell? ⟨w.heap.size, 4, none⟩ = some (.int .i64 rt) := fun W h => ((hk.below h hk.lt).cell 4).trans rfl; have X66 : ∀ W, Ext x4 W → W.cell? ⟨p7, 0, none⟩ = some (.slice A3 q c3) := fun W h => ((h7.below h h7.lt).cell 0).trans rfl; have X67 : ∀ W, Ext x4 W → W.cell? ⟨p7, 1, none⟩ = some (.int .i64 st) := fun W h => ((h7.below h h7.lt).cell 1).trans rfl; have X68 : ∀ W, Ext x4 W → W.cell? ⟨p7, 2, none⟩ = some (.int .i64 sk) := fun W h => ((h7.below h h7.lt).cell 2).trans rfl; have X69 : ∀ W, Ext x4 W → W.cell? ⟨p7, 3, none⟩ = some (.int .i64 hp) := fun W h => ((h7.below h h7.lt).cell 3).trans rfl; have X70 : ∀ W, Ext x4 W → W.cell? ⟨p7, 4, none⟩ = some (.int .i64 rt) := fun W h => ((h7.below h h7.lt).cell 4).trans rfl; refine hK _ _ b ?_
  try simp only [Act.put, List.setIfInBounds_toArray, List.set_cons_zero, List.set_cons_succ]
  refine ext_take (i := 14) (oi := ?oia14) (v := ?va14) ?hia14 (by kernel_rfl) (by kernel_rfl) (by kernel_rfl) hQ ?hwa14 ?hya14 ?resta14
  case hia14 => simp only [List.getElem?_toArray, List.getElem?_cons_zero, List.getElem?_cons_succ]; rfl
  case hwa14 => rfl
  case hya14 => intro W hW; go_simp; with_reducible rfl
  simp only [Act.put, List.setIfInBounds_toArray, List.set_cons_zero, List.set_cons_succ]
  refine ext_take (i := 15) (oi := ?oia15) (v := ?va15) ?hia15 (by kernel_rfl) (by kernel_rfl) (by kernel_rfl) hQ ?hwa15 ?hya15 ?resta15
  case hia15 => simp only [List.getElem?_toArray, List.getElem?_cons_zero, List.getElem?_cons_succ]; rfl
  case hwa15 => rfl
  case hya15 => intro W hW; go_simp; with_reducible rfl
  simp only [Act.put, List.setIfInBounds_toArray, List.set_cons_zero, List.set_cons_succ]
  refine wpAnyH_done (by kernel_rfl) ?_ _
  clear X31 X32 X33 X34 X35 X36 X37 X38 X39 X40 X41 X42 X43 X44 X45 X46 X47 X48 X49 X50 X51 X52 X53 X54 X55 X56 X57 X58 X59 X60 X61 X62 X63 X64 X65 X66 X67 X68 X69 X70
  go_wp2_with fail
  go_ret
  exact ⟨rfl, hB⟩

end Go.Proofs.Ytgobebiagpejkaa
