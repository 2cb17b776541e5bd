/- The walk of ScriptFirst. -/
import Derived.Test.YtgobebiagpejkaaScrLaw2
import Derived.Test.YtgobebiagpejkaaScriptCuts
namespace Go.Proofs.Ytgobebiagpejkaa
open Go.RowKit Wire
set_option linter.unusedVariables false

theorem valid_cut {l : List UInt8} {st sk hp rt : Int} {ps : List Int} {k : Nat} (h : scB st sk hp rt ps = true) (hc : cod (fullL st sk hp rt ps) = l) (hk : k < l.length) : ¬ ∃ a b c d q, Valid (l.take k) a b c d q := by
  rintro ⟨a, b, c, d, q, h1, h2⟩
  have h3 := cod_more (r := l.drop k) h h1 (by rw [h2, hc, List.take_append_drop])
  have := congrArg List.length h3
  rw [List.length_drop, List.length_nil] at this
  omega
theorem valid_more {l m : List UInt8} {st sk hp rt : Int} {ps : List Int} (h : scB st sk hp rt ps = true) (hc : cod (fullL st sk hp rt ps) = l) (hm : 0 < m.length) : ¬ ∃ a b c d q, Valid (l ++ m) a b c d q := by
  rintro ⟨a, b, c, d, q, h1, h2⟩
  have h3 := cod_more (r := m) h1 h (by rw [hc, h2])
  rw [h3] at hm
  simp at hm
theorem bg_sc {st sk hp rt st2 sk2 hp2 rt2 : Int} {l l2 : List Int} (h1 : scB st sk hp rt l = true) (h2 : scB st2 sk2 hp2 rt2 l2 = true) :
    bgB (cod (fullL st2 sk2 hp2 rt2 l2)) (cod (fullL st sk hp rt l)) = smB st sk hp rt l st2 sk2 hp2 rt2 l2 := by
  cases hb : bgB (cod (fullL st2 sk2 hp2 rt2 l2)) (cod (fullL st sk hp rt l))
  · cases hs : smB st sk hp rt l st2 sk2 hp2 rt2 l2
    · rfl
    · exfalso
      simp only [smB, Bool.and_eq_true, decide_eq_true_eq] at hs
      obtain ⟨rfl, rfl, rfl, rfl, rfl⟩ := hs
      simp [bgB] at hb
  · simp only [bgB, Bool.and_eq_true, decide_eq_true_eq, beq_iff_eq] at hb
    have h3 : cod (fullL st sk hp rt l) ++ (cod (fullL st2 sk2 hp2 rt2 l2)).drop (cod (fullL st sk hp rt l)).length = cod (fullL st2 sk2 hp2 rt2 l2) := by
      conv => rhs; rw [← List.take_append_drop (cod (fullL st sk hp rt l)).length (cod (fullL st2 sk2 hp2 rt2 l2))]
      rw [hb.2]
    have h4 := cod_more h2 h1 h3
    rw [h4, List.append_nil] at h3
    obtain ⟨rfl, rfl, rfl, rfl, rfl⟩ := cod_same h2 h1 h3
    simp [smB]
theorem sc_err {st sk hp rt : Int} {l : List Int} (h : scB st sk hp rt l = false) : scE st sk hp rt l = 8 := by simp [scE, h]
theorem gr_len {st sk hp rt : Int} {l : List Int} {n : Nat} (h : grB n = false) (hs : scB st sk hp rt l = true) (hl : l.length = n) : (enL st sk hp rt l).length ≤ 3050 := by
  have h1 := (sc_parts hs).2.2.2.2.1
  simp [grB] at h
  unfold enL
  rw [if_pos hs]
  have h2 := cod_len (fullL st sk hp rt l)
  have h3 : (fullL st sk hp rt l).length = 5 + n := by rw [fullL, List.length_append, hl]; rfl
  omega

set_option maxRecDepth 100000 in
set_option maxHeartbeats 16000000 in
theorem scriptFirst_walk (w : World) (A : Option Addr) (n c : Nat) (l : List Int) (st sk hp rt : Int) (hr : RdI w w.heap.size A n l) (hc : n ≤ c ∧ c ≤ 9223372036854775807) (hst : -9223372036854775808 ≤ st ∧ st ≤ 9223372036854775807) (hsk : -9223372036854775808 ≤ sk ∧ sk ≤ 9223372036854775807) (hhp : -9223372036854775808 ≤ hp ∧ hp ≤ 9223372036854775807) (hrt : -9223372036854775808 ≤ rt ∧ rt ≤ 9223372036854775807) (A2 : Option Addr) (n2 c2 : Nat) (l2 : List Int) (st2 sk2 hp2 rt2 : Int) (hrt2 : RdI w w.heap.size A2 n2 l2) (hc2 : n2 ≤ c2 ∧ c2 ≤ 9223372036854775807) (hst2 : -9223372036854775808 ≤ st2 ∧ st2 ≤ 9223372036854775807) (hsk2 : -9223372036854775808 ≤ sk2 ∧ sk2 ≤ 9223372036854775807) (hhp2 : -9223372036854775808 ≤ hp2 ∧ hp2 ≤ 9223372036854775807) (hrtt2 : -9223372036854775808 ≤ rt2 ∧ rt2 ≤ 9223372036854775807) (at_ : Int) (hat : -9223372036854775808 ≤ at_ ∧ at_ ≤ 9223372036854775807) (MA : Option Addr) (mn mc : Nat) (ml : List UInt8) (hrm : Rb w MA mn ml) (hmc : mn ≤ mc ∧ mc ≤ 9223372036854775807) :
    Calls Try.prog 8 #[scr A n c st sk hp rt, scr A2 n2 c2 st2 sk2 hp2 rt2, .int .i64 at_, .slice MA mn mc] w fun e w' => e = .returned (.bool true) ∧ Below w.heap.size w w' := by
  have hB : Below w.heap.size w ((w.alloc (.cells #[.slice A n c, .int .i64 st, .int .i64 sk, .int .i64 hp, .int .i64 rt] 31)).alloc (.cells #[.slice A2 n2 c2, .int .i64 st2, .int .i64 sk2, .int .i64 hp2, .int .i64 rt2] 31)) := Below.alloc (Ext.al w (.cells #[.slice A n c, .int .i64 st, .int .i64 sk, .int .i64 hp, .int .i64 rt] 31)) (by simp) (.cells #[.slice A2 n2 c2, .int .i64 st2, .int .i64 sk2, .int .i64 hp2, .int .i64 rt2] 31)
  have hk := (Blk.new w 31 #[.slice A n c, .int .i64 st, .int .i64 sk, .int .i64 hp, .int .i64 rt]).alloc (.cells #[.slice A2 n2 c2, .int .i64 st2, .int .i64 sk2, .int .i64 hp2, .int .i64 rt2] 31)
  have hq := Blk.new (w.alloc (.cells #[.slice A n c, .int .i64 st, .int .i64 sk, .int .i64 hp, .int .i64 rt] 31)) 31 #[.slice A2 n2 c2, .int .i64 st2, .int .i64 sk2, .int .i64 hp2, .int .i64 rt2]
  rw [alloc_size] at hq
  have R := hr.mv hB
  have RT := hrt2.mv hB
  have RM := hrm.mv hB
  have HL := Lib.hid hr.lenI
  have HL2 := Lib.hid hrt2.lenI
  have HLM := Lib.hid hrm.len8
  clear hr hrt2 hrm
  have hn' : n ≤ 9223372036854775807 := by omega
  have hn2' : n2 ≤ 9223372036854775807 := by omega
  by_cases hg : grB n = true
  · have HG := Lib.hid hg
    clear hg
    go_enter Try.func8, Try.ntmps8
    go_wp2_with fail
    refine (great11_any A n c st sk hp rt _).mono ?_
    rintro e w2 ⟨rfl, b⟩
    rw [HG.out]
    replace R := R.mv b
    replace RT := RT.mv b
    replace RM := RM.mv b
    replace hk := hk.below b hk.lt
    replace hq := hq.below b hq.lt
    replace hB := hB.trans (b.mono hB.size)
    clear b
    go_wp2_with (go_at_call 11; refine (alive11_any _).mono ?_; rintro e w7 ⟨rfl, hb7⟩)
    go_ret
    exact ⟨rfl, hB.trans (hb7.mono hB.size)⟩
  have HG := Lib.hid (show grB n = false from by simpa using hg)
  clear hg
  by_cases hg : grB n2 = true
  · have HG2 := Lib.hid hg
    clear hg
    go_enter Try.func8, Try.ntmps8
    go_wp2_with fail
    refine (great11_any A n c st sk hp rt _).mono ?_
    rintro e w2 ⟨rfl, b⟩
    rw [HG.out]
    replace R := R.mv b
    replace RT := RT.mv b
    replace RM := RM.mv b
    replace hk := hk.below b hk.lt
    replace hq := hq.below b hq.lt
    replace hB := hB.trans (b.mono hB.size)
    clear b
    have z1 : w2.cell? ⟨w.heap.size + 1, 0, none⟩ = some (.slice A2 n2 c2) := (hq.cell 0).trans rfl
    have z2 : w2.cell? ⟨w.heap.size + 1, 1, none⟩ = some (.int .i64 st2) := (hq.cell 1).trans rfl
    have z3 : w2.cell? ⟨w.heap.size + 1, 2, none⟩ = some (.int .i64 sk2) := (hq.cell 2).trans rfl
    have z4 : w2.cell? ⟨w.heap.size + 1, 3, none⟩ = some (.int .i64 hp2) := (hq.cell 3).trans rfl
    have z5 : w2.cell? ⟨w.heap.size + 1, 4, none⟩ = some (.int .i64 rt2) := (hq.cell 4).trans rfl
    go_wp2_with fail
    clear z1 z2 z3 z4 z5
    refine (great11_any A2 n2 c2 st2 sk2 hp2 rt2 _).mono ?_
    rintro e w3 ⟨rfl, b⟩
    rw [HG2.out]
    replace R := R.mv b
    replace RT := RT.mv b
    replace RM := RM.mv b
    replace hk := hk.below b hk.lt
    replace hq := hq.below b hq.lt
    replace hB := hB.trans (b.mono hB.size)
    clear b
    go_wp2_with (go_at_call 11; refine (alive11_any _).mono ?_; rintro e w7 ⟨rfl, hb7⟩)
    go_ret
    exact ⟨rfl, hB.trans (hb7.mono hB.size)⟩
  have HG2 := Lib.hid (show grB n2 = false from by simpa using hg)
  clear hg
  have HE := Lib.hid (fun W (h : RdI W W.heap.size A n l) => encode11_any A n c l st sk hp rt W h hn')
  have HE2 := Lib.hid (fun W (h : RdI W W.heap.size A2 n2 l2) => encode11_any A2 n2 c2 l2 st2 sk2 hp2 rt2 W h hn2')
  cases hs : scB st sk hp rt l
  · have HV := Lib.hid (sc_err hs)
    rw [HV.out] at HE
    clear hs
    generalize enL st sk hp rt l = x1 at *
    generalize enL st2 sk2 hp2 rt2 l2 = x2 at *
    generalize scE st2 sk2 hp2 rt2 l2 = e2 at *
    go_enter Try.func8, Try.ntmps8
    go_wp2_with fail
    refine (great11_any A n c st sk hp rt _).mono ?_
    rintro e w2 ⟨rfl, b⟩
    rw [HG.out]
    replace R := R.mv b
    replace RT := RT.mv b
    replace RM := RM.mv b
    replace hk := hk.below b hk.lt
    replace hq := hq.below b hq.lt
    replace hB := hB.trans (b.mono hB.size)
    clear b
    have z1 : w2.cell? ⟨w.heap.size + 1, 0, none⟩ = some (.slice A2 n2 c2) := (hq.cell 0).trans rfl
    have z2 : w2.cell? ⟨w.heap.size + 1, 1, none⟩ = some (.int .i64 st2) := (hq.cell 1).trans rfl
    have z3 : w2.cell? ⟨w.heap.size + 1, 2, none⟩ = some (.int .i64 sk2) := (hq.cell 2).trans rfl
    have z4 : w2.cell? ⟨w.heap.size + 1, 3, none⟩ = some (.int .i64 hp2) := (hq.cell 3).trans rfl
    have z5 : w2.cell? ⟨w.heap.size + 1, 4, none⟩ = some (.int .i64 rt2) := (hq.cell 4).trans rfl
    go_wp2_with fail
    clear z1 z2 z3 z4 z5
    refine (great11_any A2 n2 c2 st2 sk2 hp2 rt2 _).mono ?_
    rintro e w3 ⟨rfl, b⟩
    rw [HG2.out]
    replace R := R.mv b
    replace RT := RT.mv b
    replace RM := RM.mv b
    replace hk := hk.below b hk.lt
    replace hq := hq.below b hq.lt
    replace hB := hB.trans (b.mono hB.size)
    clear b
    have z6 : w3.cell? ⟨w.heap.size, 0, none⟩ = some (.slice A n c) := (hk.cell 0).trans rfl
    have z7 : w3.cell? ⟨w.heap.size, 1, none⟩ = some (.int .i64 st) := (hk.cell 1).trans rfl
    have z8 : w3.cell? ⟨w.heap.size, 2, none⟩ = some (.int .i64 sk) := (hk.cell 2).trans rfl
    have z9 : w3.cell? ⟨w.heap.size, 3, none⟩ = some (.int .i64 hp) := (hk.cell 3).trans rfl
    have z10 : w3.cell? ⟨w.heap.size, 4, none⟩ = some (.int .i64 rt) := (hk.cell 4).trans rfl
    go_wp2_with fail
    clear z6 z7 z8 z9 z10
    refine (HE.out _ R).mono ?_
    rintro e w4 ⟨A3, c3, rfl, o3, b⟩
    have R3 := own_rd o3
    have hc3 := (own_cap o3).1
    clear o3
    replace R := R.mv b
    replace RT := RT.mv b
    replace RM := RM.mv b
    replace hk := hk.below b hk.lt
    replace hq := hq.below b hq.lt
    replace hB := hB.trans (b.mono hB.size)
    clear b
    have z11 : w4.cell? ⟨w.heap.size + 1, 0, none⟩ = some (.slice A2 n2 c2) := (hq.cell 0).trans rfl
    have z12 : w4.cell? ⟨w.heap.size + 1, 1, none⟩ = some (.int .i64 st2) := (hq.cell 1).trans rfl
    have z13 : w4.cell? ⟨w.heap.size + 1, 2, none⟩ = some (.int .i64 sk2) := (hq.cell 2).trans rfl
    have z14 : w4.cell? ⟨w.heap.size + 1, 3, none⟩ = some (.int .i64 hp2) := (hq.cell 3).trans rfl
    have z15 : w4.cell? ⟨w.heap.size + 1, 4, none⟩ = some (.int .i64 rt2) := (hq.cell 4).trans rfl
    go_wp2_with fail
    clear z11 z12 z13 z14 z15
    refine (HE2.out _ RT).mono ?_
    rintro e w5 ⟨A4, c4, rfl, o4, b⟩
    have R4 := own_rd o4
    have hc4 := (own_cap o4).1
    clear o4
    replace R := R.mv b
    replace RT := RT.mv b
    replace RM := RM.mv b
    replace R3 := R3.mv b
    replace hk := hk.below b hk.lt
    replace hq := hq.below b hq.lt
    replace hB := hB.trans (b.mono hB.size)
    clear b
    go_wp2_with (go_at_call 11; refine (alive11_any _).mono ?_; rintro e w7 ⟨rfl, hb7⟩)
    go_ret
    exact ⟨rfl, hB.trans (hb7.mono hB.size)⟩
  cases hs2 : scB st2 sk2 hp2 rt2 l2
  · have HV := Lib.hid (sc_err hs2)
    have HVV := Lib.hid (sc_ok hs)
    rw [HV.out] at HE2
    rw [HVV.out] at HE
    clear hs hs2
    generalize enL st sk hp rt l = x1 at *
    generalize enL st2 sk2 hp2 rt2 l2 = x2 at *
    go_enter Try.func8, Try.ntmps8
    go_wp2_with fail
    refine (great11_any A n c st sk hp rt _).mono ?_
    rintro e w2 ⟨rfl, b⟩
    rw [HG.out]
    replace R := R.mv b
    replace RT := RT.mv b
    replace RM := RM.mv b
    replace hk := hk.below b hk.lt
    replace hq := hq.below b hq.lt
    replace hB := hB.trans (b.mono hB.size)
    clear b
    have z1 : w2.cell? ⟨w.heap.size + 1, 0, none⟩ = some (.slice A2 n2 c2) := (hq.cell 0).trans rfl
    have z2 : w2.cell? ⟨w.heap.size + 1, 1, none⟩ = some (.int .i64 st2) := (hq.cell 1).trans rfl
    have z3 : w2.cell? ⟨w.heap.size + 1, 2, none⟩ = some (.int .i64 sk2) := (hq.cell 2).trans rfl
    have z4 : w2.cell? ⟨w.heap.size + 1, 3, none⟩ = some (.int .i64 hp2) := (hq.cell 3).trans rfl
    have z5 : w2.cell? ⟨w.heap.size + 1, 4, none⟩ = some (.int .i64 rt2) := (hq.cell 4).trans rfl
    go_wp2_with fail
    clear z1 z2 z3 z4 z5
    refine (great11_any A2 n2 c2 st2 sk2 hp2 rt2 _).mono ?_
    rintro e w3 ⟨rfl, b⟩
    rw [HG2.out]
    replace R := R.mv b
    replace RT := RT.mv b
    replace RM := RM.mv b
    replace hk := hk.below b hk.lt
    replace hq := hq.below b hq.lt
    replace hB := hB.trans (b.mono hB.size)
    clear b
    have z6 : w3.cell? ⟨w.heap.size, 0, none⟩ = some (.slice A n c) := (hk.cell 0).trans rfl
    have z7 : w3.cell? ⟨w.heap.size, 1, none⟩ = some (.int .i64 st) := (hk.cell 1).trans rfl
    have z8 : w3.cell? ⟨w.heap.size, 2, none⟩ = some (.int .i64 sk) := (hk.cell 2).trans rfl
    have z9 : w3.cell? ⟨w.heap.size, 3, none⟩ = some (.int .i64 hp) := (hk.cell 3).trans rfl
    have z10 : w3.cell? ⟨w.heap.size, 4, none⟩ = some (.int .i64 rt) := (hk.cell 4).trans rfl
    go_wp2_with fail
    clear z6 z7 z8 z9 z10
    refine (HE.out _ R).mono ?_
    rintro e w4 ⟨A3, c3, rfl, o3, b⟩
    have R3 := own_rd o3
    have hc3 := (own_cap o3).1
    clear o3
    replace R := R.mv b
    replace RT := RT.mv b
    replace RM := RM.mv b
    replace hk := hk.below b hk.lt
    replace hq := hq.below b hq.lt
    replace hB := hB.trans (b.mono hB.size)
    clear b
    have z11 : w4.cell? ⟨w.heap.size + 1, 0, none⟩ = some (.slice A2 n2 c2) := (hq.cell 0).trans rfl
    have z12 : w4.cell? ⟨w.heap.size + 1, 1, none⟩ = some (.int .i64 st2) := (hq.cell 1).trans rfl
    have z13 : w4.cell? ⟨w.heap.size + 1, 2, none⟩ = some (.int .i64 sk2) := (hq.cell 2).trans rfl
    have z14 : w4.cell? ⟨w.heap.size + 1, 3, none⟩ = some (.int .i64 hp2) := (hq.cell 3).trans rfl
    have z15 : w4.cell? ⟨w.heap.size + 1, 4, none⟩ = some (.int .i64 rt2) := (hq.cell 4).trans rfl
    go_wp2_with fail
    clear z11 z12 z13 z14 z15
    refine (HE2.out _ RT).mono ?_
    rintro e w5 ⟨A4, c4, rfl, o4, b⟩
    have R4 := own_rd o4
    have hc4 := (own_cap o4).1
    clear o4
    replace R := R.mv b
    replace RT := RT.mv b
    replace RM := RM.mv b
    replace R3 := R3.mv b
    replace hk := hk.below b hk.lt
    replace hq := hq.below b hq.lt
    replace hB := hB.trans (b.mono hB.size)
    clear b
    go_wp2_with (go_at_call 11; refine (alive11_any _).mono ?_; rintro e w7 ⟨rfl, hb7⟩)
    go_ret
    exact ⟨rfl, hB.trans (hb7.mono hB.size)⟩
  have HV1 := Lib.hid (sc_ok hs)
  have HV2 := Lib.hid (sc_ok hs2)
  rw [HV1.out] at HE
  rw [HV2.out] at HE2
  have hx1 : (enL st sk hp rt l).length ≤ 3050 := gr_len HG.out hs HL.out
  have e1 : enL st sk hp rt l = cod (fullL st sk hp rt l) := by unfold enL; rw [if_pos hs]
  have e2 : enL st2 sk2 hp2 rt2 l2 = cod (fullL st2 sk2 hp2 rt2 l2) := by unfold enL; rw [if_pos hs2]
  have HBG := Lib.hid (show bgB (enL st2 sk2 hp2 rt2 l2) (enL st sk hp rt l) = smB st sk hp rt l st2 sk2 hp2 rt2 l2 from by rw [e1, e2]; exact bg_sc hs hs2)
  have HCUT := Lib.hid (fun k (hk : k < (enL st sk hp rt l).length) => valid_cut (k := k) hs e1.symm hk)
  have HMO := Lib.hid (fun (hm : 0 < ml.length) => valid_more (m := ml) hs e1.symm hm)
  clear hs hs2 e1 e2 HV1 HV2
  generalize enL st sk hp rt l = x1 at *
  generalize enL st2 sk2 hp2 rt2 l2 = x2 at *
  generalize hsm : smB st sk hp rt l st2 sk2 hp2 rt2 l2 = bs at *
  have HSM := Lib.hid hsm
  clear hsm
  go_enter Try.func8, Try.ntmps8
  go_wp2_with fail
  refine (great11_any A n c st sk hp rt _).mono ?_
  rintro e w2 ⟨rfl, b⟩
  rw [HG.out]
  replace R := R.mv b
  replace RT := RT.mv b
  replace RM := RM.mv b
  replace hk := hk.below b hk.lt
  replace hq := hq.below b hq.lt
  replace hB := hB.trans (b.mono hB.size)
  clear b
  have z1 : w2.cell? ⟨w.heap.size + 1, 0, none⟩ = some (.slice A2 n2 c2) := (hq.cell 0).trans rfl
  have z2 : w2.cell? ⟨w.heap.size + 1, 1, none⟩ = some (.int .i64 st2) := (hq.cell 1).trans rfl
  have z3 : w2.cell? ⟨w.heap.size + 1, 2, none⟩ = some (.int .i64 sk2) := (hq.cell 2).trans rfl
  have z4 : w2.cell? ⟨w.heap.size + 1, 3, none⟩ = some (.int .i64 hp2) := (hq.cell 3).trans rfl
  have z5 : w2.cell? ⟨w.heap.size + 1, 4, none⟩ = some (.int .i64 rt2) := (hq.cell 4).trans rfl
  go_wp2_with fail
  clear z1 z2 z3 z4 z5
  refine (great11_any A2 n2 c2 st2 sk2 hp2 rt2 _).mono ?_
  rintro e w3 ⟨rfl, b⟩
  rw [HG2.out]
  replace R := R.mv b
  replace RT := RT.mv b
  replace RM := RM.mv b
  replace hk := hk.below b hk.lt
  replace hq := hq.below b hq.lt
  replace hB := hB.trans (b.mono hB.size)
  clear b
  have z6 : w3.cell? ⟨w.heap.size, 0, none⟩ = some (.slice A n c) := (hk.cell 0).trans rfl
  have z7 : w3.cell? ⟨w.heap.size, 1, none⟩ = some (.int .i64 st) := (hk.cell 1).trans rfl
  have z8 : w3.cell? ⟨w.heap.size, 2, none⟩ = some (.int .i64 sk) := (hk.cell 2).trans rfl
  have z9 : w3.cell? ⟨w.heap.size, 3, none⟩ = some (.int .i64 hp) := (hk.cell 3).trans rfl
  have z10 : w3.cell? ⟨w.heap.size, 4, none⟩ = some (.int .i64 rt) := (hk.cell 4).trans rfl
  go_wp2_with fail
  clear z6 z7 z8 z9 z10
  refine (HE.out _ R).mono ?_
  rintro e w4 ⟨A3, c3, rfl, o3, b⟩
  have R3 := own_rd o3
  have hc3 := (own_cap o3).1
  clear o3
  replace R := R.mv b
  replace RT := RT.mv b
  replace RM := RM.mv b
  replace hk := hk.below b hk.lt
  replace hq := hq.below b hq.lt
  replace hB := hB.trans (b.mono hB.size)
  clear b
  have z11 : w4.cell? ⟨w.heap.size + 1, 0, none⟩ = some (.slice A2 n2 c2) := (hq.cell 0).trans rfl
  have z12 : w4.cell? ⟨w.heap.size + 1, 1, none⟩ = some (.int .i64 st2) := (hq.cell 1).trans rfl
  have z13 : w4.cell? ⟨w.heap.size + 1, 2, none⟩ = some (.int .i64 sk2) := (hq.cell 2).trans rfl
  have z14 : w4.cell? ⟨w.heap.size + 1, 3, none⟩ = some (.int .i64 hp2) := (hq.cell 3).trans rfl
  have z15 : w4.cell? ⟨w.heap.size + 1, 4, none⟩ = some (.int .i64 rt2) := (hq.cell 4).trans rfl
  go_wp2_with fail
  clear z11 z12 z13 z14 z15
  refine (HE2.out _ RT).mono ?_
  rintro e w5 ⟨A4, c4, rfl, o4, b⟩
  have R4 := own_rd o4
  have hc4 := (own_cap o4).1
  clear o4
  replace R := R.mv b
  replace RT := RT.mv b
  replace RM := RM.mv b
  replace R3 := R3.mv b
  replace hk := hk.below b hk.lt
  replace hq := hq.below b hq.lt
  replace hB := hB.trans (b.mono hB.size)
  clear b
  go_wp2_with fail
  refine ext_start (by kernel_rfl) (by repeat (first | exact calm_body | apply calm_then | apply calm_block)) (fun hQ => ?_)
  have b := (Ext.refl w5).draw
  replace R := R.mv b
  replace RT := RT.mv b
  replace RM := RM.mv b
  replace R3 := R3.mv b
  replace R4 := R4.mv b
  replace hk := hk.below b hk.lt
  replace hq := hq.below b hq.lt
  replace hB := hB.trans (b.mono hB.size)
  clear b
  generalize w5.drew = x0 at *
  have X16 : ∀ W, Ext x0 W → W.cell? ⟨w.heap.size, 0, none⟩ = some (.slice A n c) := fun W h => ((hk.below h hk.lt).cell 0).trans rfl
  have X17 : ∀ W, Ext x0 W → W.cell? ⟨w.heap.size, 1, none⟩ = some (.int .i64 st) := fun W h => ((hk.below h hk.lt).cell 1).trans rfl
  have X18 : ∀ W, Ext x0 W → W.cell? ⟨w.heap.size, 2, none⟩ = some (.int .i64 sk) := fun W h => ((hk.below h hk.lt).cell 2).trans rfl
  have X19 : ∀ W, Ext x0 W → W.cell? ⟨w.heap.size, 3, none⟩ = some (.int .i64 hp) := fun W h => ((hk.below h hk.lt).cell 3).trans rfl
  have X20 : ∀ W, Ext x0 W → W.cell? ⟨w.heap.size, 4, none⟩ = some (.int .i64 rt) := fun W h => ((hk.below h hk.lt).cell 4).trans rfl
  have X21 : ∀ W, Ext x0 W → W.cell? ⟨w.heap.size + 1, 0, none⟩ = some (.slice A2 n2 c2) := fun W h => ((hq.below h hq.lt).cell 0).trans rfl
  have X22 : ∀ W, Ext x0 W → W.cell? ⟨w.heap.size + 1, 1, none⟩ = some (.int .i64 st2) := fun W h => ((hq.below h hq.lt).cell 1).trans rfl
  have X23 : ∀ W, Ext x0 W → W.cell? ⟨w.heap.size + 1, 2, none⟩ = some (.int .i64 sk2) := fun W h => ((hq.below h hq.lt).cell 2).trans rfl
  have X24 : ∀ W, Ext x0 W → W.cell? ⟨w.heap.size + 1, 3, none⟩ = some (.int .i64 hp2) := fun W h => ((hq.below h hq.lt).cell 3).trans rfl
  have X25 : ∀ W, Ext x0 W → W.cell? ⟨w.heap.size + 1, 4, none⟩ = some (.int .i64 rt2) := fun W h => ((hq.below h hq.lt).cell 4).trans rfl
  refine ext_take (i := 0) (oi := ?oia0) (v := ?va0) ?hia0 (by kernel_rfl) (by kernel_rfl) (by kernel_rfl) hQ ?hwa0 ?hya0 ?resta0
  case hia0 => simp only [List.getElem?_toArray, List.getElem?_cons_zero]; rfl
  case hwa0 => rfl
  case hya0 => intro W hW; go_simp; with_reducible rfl
  simp only [Act.put, List.setIfInBounds_toArray, List.set_cons_zero, List.set_cons_succ]
  refine ext_take (i := 1) (oi := ?oia1) (v := ?va1) ?hia1 (by kernel_rfl) (by kernel_rfl) (by kernel_rfl) hQ ?hwa1 ?hya1 ?resta1
  case hia1 => simp only [List.getElem?_toArray, List.getElem?_cons_zero, List.getElem?_cons_succ]; rfl
  case hwa1 => rfl
  case hya1 => intro W hW; go_simp; with_reducible rfl
  simp only [Act.put, List.setIfInBounds_toArray, List.set_cons_zero, List.set_cons_succ]
  refine ext_take (i := 3) (oi := ?oia3) (v := ?va3) ?hia3 (by kernel_rfl) (by kernel_rfl) (by kernel_rfl) hQ ?hwa3 ?hya3 ?resta3
  case hia3 => simp only [List.getElem?_toArray, List.getElem?_cons_zero, List.getElem?_cons_succ]; rfl
  case hwa3 => rfl
  case hya3 => intro W hW; go_simp; with_reducible rfl
  simp only [Act.put, List.setIfInBounds_toArray, List.set_cons_zero, List.set_cons_succ]
  refine ext_take (i := 4) (oi := ?oia4) (v := ?va4) ?hia4 (by kernel_rfl) (by kernel_rfl) (by kernel_rfl) hQ ?hwa4 ?hya4 ?resta4
  case hia4 => simp only [List.getElem?_toArray, List.getElem?_cons_zero, List.getElem?_cons_succ]; rfl
  case hwa4 => rfl
  case hya4 => intro W hW; go_simp; with_reducible rfl
  simp only [Act.put, List.setIfInBounds_toArray, List.set_cons_zero, List.set_cons_succ]
  refine ext_step (i := 2) (oi := ?oia2) (by kernel_rfl) ?hia2 ?hwa2 (fun K hK => ?_)
  case hia2 => simp only [List.getElem?_toArray, List.getElem?_cons_zero, List.getElem?_cons_succ]; rfl
  case hwa2 => rfl
  go_simp
  refine (begins_any A4 A3 _ c4 _ c3 x2 x1 _ R4 R3 hc4).mono ?_; rintro e x3 ⟨rfl, b⟩; rw [HBG.out]; replace R := R.mv b; replace RT := RT.mv b; replace RM := RM.mv b; replace R3 := R3.mv b; replace R4 := R4.mv b; replace hk := hk.below b hk.lt; replace hq := hq.below b hq.lt; replace hB := hB.trans (b.mono hB.size); have X26 : ∀ W, Ext x3 W → W.cell? ⟨w.heap.size, 0, none⟩ = some (.slice A n c) := fun W h => ((hk.below h hk.lt).cell 0).trans rfl; have X27 : ∀ W, Ext x3 W → W.cell? ⟨w.heap.size, 1, none⟩ = some (.int .i64 st) := fun W h => ((hk.below h hk.lt).cell 1).trans rfl; have X28 : ∀ W, Ext x3 W → W.cell? ⟨w.heap.size, 2, none⟩ = some (.int .i64 sk) := fun W h => ((hk.below h hk.lt).cell 2).trans rfl; have X29 : ∀ W, Ext x3 W → W.cell? ⟨w.heap.size, 3, none⟩ = some (.int .i64 hp) := fun W h => ((hk.below h hk.lt).cell 3).trans rfl; have X30 : ∀ W, Ext x3 W → W.cell? ⟨w.heap.size, 4, none⟩ = some (.int .i64 rt) := fun W h => ((hk.below h hk.lt).cell 4).trans rfl; have X31 : ∀ W, Ext x3 W → W.cell? ⟨w.heap.size + 1, 0, none⟩ = some (.slice A2 n2 c2) := fun W h => ((hq.below h hq.lt).cell 0).trans rfl; have X32 : ∀ W, Ext x3 W → W.cell? ⟨w.heap.size + 1, 1, none⟩ = some (.int .i64 st2) := fun W h => ((hq.below h hq.lt).cell 1).trans rfl; have X33 : ∀ W, Ext x3 W → W.cell? ⟨w.heap.size + 1, 2, none⟩ = some (.int .i64 sk2) := fun W h => ((hq.below h hq.lt).cell 2).trans rfl; have X34 : ∀ W, Ext x3 W → W.cell? ⟨w.heap.size + 1, 3, none⟩ = some (.int .i64 hp2) := fun W h => ((hq.below h hq.lt).cell 3).trans rfl; have X35 : ∀ W, Ext x3 W → W.cell? ⟨w.heap.size + 1, 4, none⟩ = some (.int .i64 rt2) := fun W h => ((hq.below h hq.lt).cell 4).trans rfl; refine hK _ _ b ?_
  try simp only [Act.put, List.setIfInBounds_toArray, List.set_cons_zero, List.set_cons_succ]
  refine ext_step (i := 5) (oi := ?oia5) (by kernel_rfl) ?hia5 ?hwa5 (fun K hK => ?_)
  case hia5 => simp only [List.getElem?_toArray, List.getElem?_cons_zero, List.getElem?_cons_succ]; rfl
  case hwa5 => rfl
  go_simp
  refine (same11_any A n c l st sk hp rt A2 n2 c2 l2 st2 sk2 hp2 rt2 _ R RT hn').mono ?_; rintro e x4 ⟨rfl, b⟩; rw [HSM.out]; replace R := R.mv b; replace RT := RT.mv b; replace RM := RM.mv b; replace R3 := R3.mv b; replace R4 := R4.mv b; replace hk := hk.below b hk.lt; replace hq := hq.below b hq.lt; replace hB := hB.trans (b.mono hB.size); have X36 : ∀ W, Ext x4 W → W.cell? ⟨w.heap.size, 0, none⟩ = some (.slice A n c) := fun W h => ((hk.below h hk.lt).cell 0).trans rfl; have X37 : ∀ W, Ext x4 W → W.cell? ⟨w.heap.size, 1, none⟩ = some (.int .i64 st) := fun W h => ((hk.below h hk.lt).cell 1).trans rfl; have X38 : ∀ W, Ext x4 W → W.cell? ⟨w.heap.size, 2, none⟩ = some (.int .i64 sk) := fun W h => ((hk.below h hk.lt).cell 2).trans rfl; have X39 : ∀ W, Ext x4 W → W.cell? ⟨w.heap.size, 3, none⟩ = some (.int .i64 hp) := fun W h => ((hk.below h hk.lt).cell 3).trans rfl; have X40 : ∀ W, Ext x4 W → W.cell? ⟨w.heap.size, 4, none⟩ = some (.int .i64 rt) := fun W h => ((hk.below h hk.lt).cell 4).trans rfl; have X41 : ∀ W, Ext x4 W → W.cell? ⟨w.heap.size + 1, 0, none⟩ = some (.slice A2 n2 c2) := fun W h => ((hq.below h hq.lt).cell 0).trans rfl; have X42 : ∀ W, Ext x4 W → W.cell? ⟨w.heap.size + 1, 1, none⟩ = some (.int .i64 st2) := fun W h => ((hq.below h hq.lt).cell 1).trans rfl; have X43 : ∀ W, Ext x4 W → W.cell? ⟨w.heap.size + 1, 2, none⟩ = some (.int .i64 sk2) := fun W h => ((hq.below h hq.lt).cell 2).trans rfl; have X44 : ∀ W, Ext x4 W → W.cell? ⟨w.heap.size + 1, 3, none⟩ = some (.int .i64 hp2) := fun W h => ((hq.below h hq.lt).cell 3).trans rfl; have X45 : ∀ W, Ext x4 W → W.cell? ⟨w.heap.size + 1, 4, none⟩ = some (.int .i64 rt2) := fun W h => ((hq.below h hq.lt).cell 4).trans rfl; refine hK _ _ b ?_
  try simp only [Act.put, List.setIfInBounds_toArray, List.set_cons_zero, List.set_cons_succ]
  refine ext_take (i := 6) (oi := ?oia6) (v := ?va6) ?hia6 (by kernel_rfl) (by kernel_rfl) (by kernel_rfl) hQ ?hwa6 ?hya6 ?resta6
  case hia6 => simp only [List.getElem?_toArray, List.getElem?_cons_zero, List.getElem?_cons_succ]; rfl
  case hwa6 => rfl
  case hya6 => intro W hW; go_simp; with_reducible rfl
  simp only [Act.put, List.setIfInBounds_toArray, List.set_cons_zero, List.set_cons_succ]
  refine wpAnyH_done (by kernel_rfl) ?_ _
  clear X16 X17 X18 X19 X20 X21 X22 X23 X24 X25 X26 X27 X28 X29 X30 X31 X32 X33 X34 X35 X36 X37 X38 X39 X40 X41 X42 X43 X44 X45
  by_cases gmal6 : mn < 1
  · have dm : decide ((mn : Int) < 1) = true := by simp; omega
    by_cases g0 : at_ < 0
    · have d0 : decide ((0 : Int) ≤ at_) = false := by simp; omega
      go_wp2_with (go_at_call 11; refine (alive11_any _).mono ?_; rintro e w7 ⟨rfl, hb7⟩)
      go_ret
      exact ⟨rfl, hB.trans (hb7.mono hB.size)⟩
    have d0 : decide ((0 : Int) ≤ at_) = true := by simp; omega
    obtain ⟨k, rfl⟩ : ∃ k : Nat, at_ = (k : Int) := ⟨at_.toNat, by omega⟩
    by_cases g3 : k < x1.length
    rotate_left
    · have d1 : decide ((k : Int) < (x1.length : Int)) = false := by simp; omega
      have d1n : decide (k < x1.length) = false := by simp; omega
      go_wp2_with (go_at_call 11; refine (alive11_any _).mono ?_; rintro e w7 ⟨rfl, hb7⟩)
      go_ret
      exact ⟨rfl, hB.trans (hb7.mono hB.size)⟩
    have d1 : decide ((k : Int) < (x1.length : Int)) = true := by simp; omega
    have j0 : (0 : Int) ≤ (k : Int) := by omega
    have j1 : (k : Int) ≤ (c3 : Int) := by omega
    have HK := Lib.hid (HCUT.out k g3)
    have RS := Reads.first R3 (Nat.le_of_lt g3)
    rw [Nat.mul_one, ← List.map_take] at RS
    go_wp2_with fail
    refine (decode_no A3 k c3 (x1.take k) _ RS (by omega) (by omega) HK.out).mono ?_
    rintro e y1 ⟨A5, c5, rfl, b⟩
    replace R := R.mv b
    replace RT := RT.mv b
    replace RM := RM.mv b
    replace R3 := R3.mv b
    replace R4 := R4.mv b
    replace hk := hk.below b hk.lt
    replace hq := hq.below b hq.lt
    replace hB := hB.trans (b.mono hB.size)
    clear b
    have b := Ext.al y1 (.cells #[.slice A5 0 c5, .int .i64 0, .int .i64 0, .int .i64 0, .int .i64 0] 31)
    have h13 := Blk.new y1 31 #[.slice A5 0 c5, .int .i64 0, .int .i64 0, .int .i64 0, .int .i64 0]
    have o_hk_h13 := hk.lt
    have o_hq_h13 := hq.lt
    replace R := R.mv b
    replace RT := RT.mv b
    replace RM := RM.mv b
    replace R3 := R3.mv b
    replace R4 := R4.mv b
    replace hk := hk.below b hk.lt
    replace hq := hq.below b hq.lt
    replace hB := hB.trans (b.mono hB.size)
    clear b
    go_wp2_with (go_at_call 11; refine (alive11_any _).mono ?_; rintro e w7 ⟨rfl, hb7⟩)
    go_ret
    exact ⟨rfl, hB.trans (hb7.mono hB.size)⟩
  by_cases gmal7 : 50 < mn
  · have dm : decide ((mn : Int) < 1) = false := by simp; omega
    have dm2 : ¬ mn = 0 := by omega
    have dn : decide ((50 : Int) < (mn : Int)) = true := by simp; omega
    by_cases g0 : at_ < 0
    · have d0 : decide ((0 : Int) ≤ at_) = false := by simp; omega
      go_wp2_with (go_at_call 11; refine (alive11_any _).mono ?_; rintro e w7 ⟨rfl, hb7⟩)
      go_ret
      exact ⟨rfl, hB.trans (hb7.mono hB.size)⟩
    have d0 : decide ((0 : Int) ≤ at_) = true := by simp; omega
    obtain ⟨k, rfl⟩ : ∃ k : Nat, at_ = (k : Int) := ⟨at_.toNat, by omega⟩
    by_cases g3 : k < x1.length
    rotate_left
    · have d1 : decide ((k : Int) < (x1.length : Int)) = false := by simp; omega
      have d1n : decide (k < x1.length) = false := by simp; omega
      go_wp2_with (go_at_call 11; refine (alive11_any _).mono ?_; rintro e w7 ⟨rfl, hb7⟩)
      go_ret
      exact ⟨rfl, hB.trans (hb7.mono hB.size)⟩
    have d1 : decide ((k : Int) < (x1.length : Int)) = true := by simp; omega
    have j0 : (0 : Int) ≤ (k : Int) := by omega
    have j1 : (k : Int) ≤ (c3 : Int) := by omega
    have HK := Lib.hid (HCUT.out k g3)
    have RS := Reads.first R3 (Nat.le_of_lt g3)
    rw [Nat.mul_one, ← List.map_take] at RS
    go_wp2_with fail
    refine (decode_no A3 k c3 (x1.take k) _ RS (by omega) (by omega) HK.out).mono ?_
    rintro e y1 ⟨A5, c5, rfl, b⟩
    replace R := R.mv b
    replace RT := RT.mv b
    replace RM := RM.mv b
    replace R3 := R3.mv b
    replace R4 := R4.mv b
    replace hk := hk.below b hk.lt
    replace hq := hq.below b hq.lt
    replace hB := hB.trans (b.mono hB.size)
    clear b
    have b := Ext.al y1 (.cells #[.slice A5 0 c5, .int .i64 0, .int .i64 0, .int .i64 0, .int .i64 0] 31)
    have h13 := Blk.new y1 31 #[.slice A5 0 c5, .int .i64 0, .int .i64 0, .int .i64 0, .int .i64 0]
    have o_hk_h13 := hk.lt
    have o_hq_h13 := hq.lt
    replace R := R.mv b
    replace RT := RT.mv b
    replace RM := RM.mv b
    replace R3 := R3.mv b
    replace R4 := R4.mv b
    replace hk := hk.below b hk.lt
    replace hq := hq.below b hq.lt
    replace hB := hB.trans (b.mono hB.size)
    clear b
    go_wp2_with (go_at_call 11; refine (alive11_any _).mono ?_; rintro e w7 ⟨rfl, hb7⟩)
    go_ret
    exact ⟨rfl, hB.trans (hb7.mono hB.size)⟩
  have dm : decide ((mn : Int) < 1) = false := by simp; omega
  have dm2 : ¬ mn = 0 := by omega
  have dn : decide ((50 : Int) < (mn : Int)) = false := by simp; omega
  by_cases g0 : at_ < 0
  · have d0 : decide ((0 : Int) ≤ at_) = false := by simp; omega
    have b0 := Ext.al x4 (.cells #[] 5)
    have e0 : x4.heap.size = x4.heap.size := rfl
    have R30 : RdB (x4.alloc (.cells #[] 5)) (x4.heap.size) A3 x1.length x1 := e0 ▸ R3.below b0
    have RM0 : RdB (x4.alloc (.cells #[] 5)) (x4.heap.size) MA mn ml := e0 ▸ RM.below b0
    have HNO := Lib.hid (HMO.out (by rw [HLM.out]; omega))
    have hZ : x4.heap.size ≤ (x4.alloc (.cells #[] 5)).heap.size := e0 ▸ b0.size
    clear e0
    go_wp2_with (first
      | (at_builtin; refine wpList_app8 rfl (.tmp 77) (.tmp 78) _ (by rfl) sl8 (x4.heap.size) (by rfl) o8 (by rfl) (RM0.below bb8) (x1.length + mn) rfl (by omega) (Nat.le_trans hZ bb8.size) ?_; intro A9 c9 w9 o9 bb9)
      | (at_builtin; refine wpList_app8 rfl (.tmp 75) (.tmp 76) _ (by rfl) sl8 (x4.heap.size) (l := []) (by rfl) (own_empty_at rfl (Nat.le_refl _) _ _) (by rfl) R30 x1.length (by simp) (by omega) hZ ?_; intro A8 c8 w8 o8 bb8))
    have b : Below x4.heap.size x4 w9 := Below.trans b0 (by first | exact Below.trans bb8 bb9 | (rw [alloc_size]; exact Below.trans bb8 bb9))
    rw [List.nil_append] at o9
    have R9 := own_rd o9
    have hc9 := (own_cap o9).1
    replace hB := hB.trans (b.mono hB.size)
    refine (decode_no A9 _ c9 (x1 ++ ml) _ R9 hc9 (by omega) HNO.out).mono ?_
    rintro e w10 ⟨A5, c5, rfl, b⟩
    replace hB := hB.trans (b.mono hB.size)
    have hB11 := hB.alloc hB.size (.cells #[.slice A5 0 c5, .int .i64 0, .int .i64 0, .int .i64 0, .int .i64 0] 31)
    go_wp2_with (go_at_call 11; refine (alive11_any _).mono ?_; rintro e w7 ⟨rfl, hb7⟩)
    go_ret
    exact ⟨rfl, hB11.trans (hb7.mono hB11.size)⟩
  have d0 : decide ((0 : Int) ≤ at_) = true := by simp; omega
  obtain ⟨k, rfl⟩ : ∃ k : Nat, at_ = (k : Int) := ⟨at_.toNat, by omega⟩
  by_cases g3 : k < x1.length
  rotate_left
  · have d1 : decide ((k : Int) < (x1.length : Int)) = false := by simp; omega
    have d1n : decide (k < x1.length) = false := by simp; omega
    have b0 := Ext.al x4 (.cells #[] 5)
    have e0 : x4.heap.size = x4.heap.size := rfl
    have R30 : RdB (x4.alloc (.cells #[] 5)) (x4.heap.size) A3 x1.length x1 := e0 ▸ R3.below b0
    have RM0 : RdB (x4.alloc (.cells #[] 5)) (x4.heap.size) MA mn ml := e0 ▸ RM.below b0
    have HNO := Lib.hid (HMO.out (by rw [HLM.out]; omega))
    have hZ : x4.heap.size ≤ (x4.alloc (.cells #[] 5)).heap.size := e0 ▸ b0.size
    clear e0
    go_wp2_with (first
      | (at_builtin; refine wpList_app8 rfl (.tmp 77) (.tmp 78) _ (by rfl) sl8 (x4.heap.size) (by rfl) o8 (by rfl) (RM0.below bb8) (x1.length + mn) rfl (by omega) (Nat.le_trans hZ bb8.size) ?_; intro A9 c9 w9 o9 bb9)
      | (at_builtin; refine wpList_app8 rfl (.tmp 75) (.tmp 76) _ (by rfl) sl8 (x4.heap.size) (l := []) (by rfl) (own_empty_at rfl (Nat.le_refl _) _ _) (by rfl) R30 x1.length (by simp) (by omega) hZ ?_; intro A8 c8 w8 o8 bb8))
    have b : Below x4.heap.size x4 w9 := Below.trans b0 (by first | exact Below.trans bb8 bb9 | (rw [alloc_size]; exact Below.trans bb8 bb9))
    rw [List.nil_append] at o9
    have R9 := own_rd o9
    have hc9 := (own_cap o9).1
    replace hB := hB.trans (b.mono hB.size)
    refine (decode_no A9 _ c9 (x1 ++ ml) _ R9 hc9 (by omega) HNO.out).mono ?_
    rintro e w10 ⟨A5, c5, rfl, b⟩
    replace hB := hB.trans (b.mono hB.size)
    have hB11 := hB.alloc hB.size (.cells #[.slice A5 0 c5, .int .i64 0, .int .i64 0, .int .i64 0, .int .i64 0] 31)
    go_wp2_with (go_at_call 11; refine (alive11_any _).mono ?_; rintro e w7 ⟨rfl, hb7⟩)
    go_ret
    exact ⟨rfl, hB11.trans (hb7.mono hB11.size)⟩
  have d1 : decide ((k : Int) < (x1.length : Int)) = true := by simp; omega
  have j0 : (0 : Int) ≤ (k : Int) := by omega
  have j1 : (k : Int) ≤ (c3 : Int) := by omega
  have HK := Lib.hid (HCUT.out k g3)
  have RS := Reads.first R3 (Nat.le_of_lt g3)
  rw [Nat.mul_one, ← List.map_take] at RS
  go_wp2_with fail
  refine (decode_no A3 k c3 (x1.take k) _ RS (by omega) (by omega) HK.out).mono ?_
  rintro e y1 ⟨A5, c5, rfl, b⟩
  replace R := R.mv b
  replace RT := RT.mv b
  replace RM := RM.mv b
  replace R3 := R3.mv b
  replace R4 := R4.mv b
  replace hk := hk.below b hk.lt
  replace hq := hq.below b hq.lt
  replace hB := hB.trans (b.mono hB.size)
  clear b
  have b := Ext.al y1 (.cells #[.slice A5 0 c5, .int .i64 0, .int .i64 0, .int .i64 0, .int .i64 0] 31)
  have h13 := Blk.new y1 31 #[.slice A5 0 c5, .int .i64 0, .int .i64 0, .int .i64 0, .int .i64 0]
  have o_hk_h13 := hk.lt
  have o_hq_h13 := hq.lt
  replace R := R.mv b
  replace RT := RT.mv b
  replace RM := RM.mv b
  replace R3 := R3.mv b
  replace R4 := R4.mv b
  replace hk := hk.below b hk.lt
  replace hq := hq.below b hq.lt
  replace hB := hB.trans (b.mono hB.size)
  clear b
  obtain ⟨y2, hy2⟩ : ∃ y2, y2 = y1.alloc (.cells #[.slice A5 0 c5, .int .i64 0, .int .i64 0, .int .i64 0, .int .i64 0] 31) := ⟨_, rfl⟩
  have HY := Lib.hid hy2
  rw [← hy2] at hB R R3 RM
  have RW3 : Rb (y1.alloc (.cells #[.slice A5 0 c5, .int .i64 0, .int .i64 0, .int .i64 0, .int .i64 0] 31)) A3 x1.length x1 := hy2 ▸ R3
  have RWM : Rb (y1.alloc (.cells #[.slice A5 0 c5, .int .i64 0, .int .i64 0, .int .i64 0, .int .i64 0] 31)) MA mn ml := hy2 ▸ RM
  have hBW : Below w.heap.size w (y1.alloc (.cells #[.slice A5 0 c5, .int .i64 0, .int .i64 0, .int .i64 0, .int .i64 0] 31)) := hy2 ▸ hB
  clear hB R3 RM R hy2 HY
  have hB := hBW
  have R3 := RW3
  have RM := RWM
  clear hBW RW3 RWM
  have b0 := Ext.al (y1.alloc (.cells #[.slice A5 0 c5, .int .i64 0, .int .i64 0, .int .i64 0, .int .i64 0] 31)) (.cells #[] 5)
  have e0 : (y1.alloc (.cells #[.slice A5 0 c5, .int .i64 0, .int .i64 0, .int .i64 0, .int .i64 0] 31)).heap.size = y1.heap.size + 1 := alloc_size _ _
  have R30 : RdB ((y1.alloc (.cells #[.slice A5 0 c5, .int .i64 0, .int .i64 0, .int .i64 0, .int .i64 0] 31)).alloc (.cells #[] 5)) (y1.heap.size + 1) A3 x1.length x1 := e0 ▸ R3.below b0
  have RM0 : RdB ((y1.alloc (.cells #[.slice A5 0 c5, .int .i64 0, .int .i64 0, .int .i64 0, .int .i64 0] 31)).alloc (.cells #[] 5)) (y1.heap.size + 1) MA mn ml := e0 ▸ RM.below b0
  have HNO := Lib.hid (HMO.out (by rw [HLM.out]; omega))
  have hZ : y1.heap.size + 1 ≤ ((y1.alloc (.cells #[.slice A5 0 c5, .int .i64 0, .int .i64 0, .int .i64 0, .int .i64 0] 31)).alloc (.cells #[] 5)).heap.size := e0 ▸ b0.size
  clear e0
  go_wp2_with (first
    | (at_builtin; refine wpList_app8 rfl (.tmp 77) (.tmp 78) _ (by rfl) sl8 (y1.heap.size + 1) (by rfl) o8 (by rfl) (RM0.below bb8) (x1.length + mn) rfl (by omega) (Nat.le_trans hZ bb8.size) ?_; intro A9 c9 w9 o9 bb9)
    | (at_builtin; refine wpList_app8 rfl (.tmp 75) (.tmp 76) _ (by rfl) sl8 (y1.heap.size + 1) (l := []) (by rfl) (own_empty_at (alloc_size _ _) (Nat.le_refl _) _ _) (by rfl) R30 x1.length (by simp) (by omega) hZ ?_; intro A8 c8 w8 o8 bb8))
  have b : Below (y1.alloc (.cells #[.slice A5 0 c5, .int .i64 0, .int .i64 0, .int .i64 0, .int .i64 0] 31)).heap.size (y1.alloc (.cells #[.slice A5 0 c5, .int .i64 0, .int .i64 0, .int .i64 0, .int .i64 0] 31)) w9 := Below.trans b0 (by first | exact Below.trans bb8 bb9 | (rw [alloc_size]; exact Below.trans bb8 bb9))
  rw [List.nil_append] at o9
  have R9 := own_rd o9
  have hc9 := (own_cap o9).1
  replace hB := hB.trans (b.mono hB.size)
  refine (decode_no A9 _ c9 (x1 ++ ml) _ R9 hc9 (by omega) HNO.out).mono ?_
  rintro e w10 ⟨A5, c5, rfl, b⟩
  replace hB := hB.trans (b.mono hB.size)
  have hB11 := hB.alloc hB.size (.cells #[.slice A5 0 c5, .int .i64 0, .int .i64 0, .int .i64 0, .int .i64 0] 31)
  go_wp2_with (go_at_call 11; refine (alive11_any _).mono ?_; rintro e w7 ⟨rfl, hb7⟩)
  go_ret
  exact ⟨rfl, hB11.trans (hb7.mono hB11.size)⟩

end Go.Proofs.Ytgobebiagpejkaa
