/- Each byte at its address: plain laws, and the walk of MemoryBytes. Each states its conditions. -/
import Derived.Test.YtponceakelimeaaMemoryParts
import Derived.BigQuiet
namespace Go.Proofs.Ytponceakelimeaa
open Go.RowKit Wire
set_option linter.unusedVariables false

theorem below_drewN' {B : Nat} {u w : World} (h : Below B u w) (n : Nat) : Below B u (w.drewN n) := ⟨h.os, h.tape, h.output, h.size, h.block⟩
theorem by_none {b : Nat} {l0 : List UInt8} {L : List (Nat × List UInt8)} {at_ n : Nat} (hh : hpB b l0.length = true) (hs : stB L = true) (hn : n ≤ 4096) (h0 : at_ ≠ 0) (h : ∀ p ∈ (b, l0) :: L, hasB at_ n p = false) : byE b l0 L at_ (n : Int) = 16 ∧ byL b l0 L at_ (n : Int) = [] := by
  have he : byE b l0 L at_ (n : Int) = 16 := by rw [by_at hh hs hn, if_neg h0, fdR_none h]; rfl
  exact by_no he (by decide)
theorem gap_apart {L : List (Nat × List UInt8)} (hg : Gap L) {p q : Nat × List UInt8} (hp : p ∈ L) (hq : q ∈ L) : p = q ∨ p.1 + p.2.length < q.1 ∨ q.1 + q.2.length < p.1 := by
  induction L with
  | nil => simp at hp
  | cons r L ih =>
    obtain ⟨h1, h2⟩ := List.pairwise_cons.1 hg
    rcases List.mem_cons.1 hp with e1 | h3
    · rcases List.mem_cons.1 hq with e2 | h4
      · exact .inl (e1.trans e2.symm)
      · subst e1; exact .inr (.inl (h1 q h4))
    · rcases List.mem_cons.1 hq with e2 | h4
      · subst e2; exact .inr (.inr (h1 p h3))
      · exact ih h2 h3 h4
theorem base_lo {b : Nat} {l0 : List UInt8} {L : List (Nat × List UInt8)} (hh : hpB b l0.length = true) (hs : stB L = true) {p : Nat × List UInt8} (hp : p ∈ (b, l0) :: L) : 65536 ≤ p.1 ∧ p.1 + p.2.length < 18446744073709551615 ∧ p.2.length ≤ 16384 := by
  simp only [hpB, fitB, Bool.and_eq_true, decide_eq_true_eq] at hh
  rcases List.mem_cons.1 hp with rfl | hp2
  · show 65536 ≤ b ∧ b + l0.length < _ ∧ l0.length ≤ _
    omega
  · have h16 := stB_bd hs
    have hg : ∀ (L : List (Nat × List UInt8)) (i : Nat), stkB i L = true → ∀ p ∈ L, 16777216 * (i + 1) ≤ p.1 ∧ p.1 ≤ 16777216 * (i + L.length) ∧ p.2.length ≤ 4096 := by
      intro L
      induction L with
      | nil => intro i _ p hp; simp at hp
      | cons q L ih =>
        intro i hq p hp
        simp only [stkB, Bool.and_eq_true] at hq
        obtain ⟨hq1, hq2⟩ := hq
        simp only [fitB, Bool.and_eq_true, decide_eq_true_eq] at hq1
        rcases List.mem_cons.1 hp with rfl | hp
        · simp only [List.length_cons]; omega
        · have := ih (i + 1) hq2 p hp
          simp only [List.length_cons]; omega
    simp only [stB, Bool.and_eq_true] at hs
    have := hg L 0 hs.1 p hp2
    omega
theorem by_end {b : Nat} {l0 : List UInt8} {L : List (Nat × List UInt8)} (hh : hpB b l0.length = true) (hs : stB L = true) {p : Nat × List UInt8} (hp : p ∈ (b, l0) :: L) : byE b l0 L (p.1 + p.2.length) 1 = 16 := by
  have hb := base_lo hh hs hp
  refine (by_none (n := 1) hh hs (by omega) (by omega) (fun q hq => ?_)).1
  rw [← Bool.not_eq_true]
  simp only [hasB, Bool.and_eq_true, decide_eq_true_eq]
  rcases gap_apart (all_gap hh hs) hp hq with h | h | h
  · subst h; omega
  · omega
  · omega
theorem by_before {b : Nat} {l0 : List UInt8} {L : List (Nat × List UInt8)} (hh : hpB b l0.length = true) (hs : stB L = true) {p : Nat × List UInt8} (hp : p ∈ (b, l0) :: L) : byE b l0 L (p.1 - 1) 1 = 16 := by
  have hb := base_lo hh hs hp
  refine (by_none (n := 1) hh hs (by omega) (by omega) (fun q hq => ?_)).1
  rw [← Bool.not_eq_true]
  simp only [hasB, Bool.and_eq_true, decide_eq_true_eq]
  rcases gap_apart (all_gap hh hs) hp hq with h | h | h
  · subst h; omega
  · omega
  · omega

set_option maxRecDepth 100000 in
set_option maxHeartbeats 8000000 in
theorem memoryBytes_walk (w : World) (b : Nat) (A0 : Option Addr) (n0 c0 : Nat) (l0 : List UInt8) (hr0 : Rb w A0 n0 l0) (hc0 : n0 ≤ c0 ∧ c0 ≤ 9223372036854775807) (hb : b < 18446744073709551616) (A : Option Addr) (m c : Nat) (L : List (Nat × List UInt8)) (hr : RdR w A m L) (hc : m ≤ c ∧ c ≤ 9223372036854775807) (q : Int) (hq : -9223372036854775808 ≤ q ∧ q ≤ 9223372036854775807) (n : Int) (hn : -9223372036854775808 ≤ n ∧ n ≤ 9223372036854775807) :
    Calls Try.prog 6 #[rgn b A0 n0 c0, .slice A m c, .int .i64 q, .int .i64 n] w fun e w' => e = .returned (.bool true) ∧ Below w.heap.size w w' := by
  have hl := hr0.len8
  subst hl
  have HR0 := Lib.hid hr0
  have HRS := Lib.hid hr
  have HLn := Lib.hid hr.1
  clear hr0 hr
  obtain ⟨g1, hg1⟩ : ∃ g1, grB [(b, l0)] = g1 := ⟨_, rfl⟩
  obtain ⟨g2, hg2⟩ : ∃ g2, grB L = g2 := ⟨_, rfl⟩
  have HG := Lib.hid (And.intro hg1 hg2)
  clear hg1 hg2
  have HPX := Lib.hid (show ∀ (W bx : Nat) (lx : List UInt8), ((b, l0) :: L)[W]? = some (bx, lx) → (bx, lx) ∈ (b, l0) :: L ∧ True from fun W bx lx h => ⟨List.mem_of_getElem? h, trivial⟩)
  have hB : Below w.heap.size w (w.alloc (.cells #[.int .u64 (b : Int), .slice A0 l0.length c0] 25)) := (Below.alloc (Below.refl w.heap.size w) (by simp <;> omega) (.cells #[.int .u64 (b : Int), .slice A0 l0.length c0] 25))
  have hk := Blk.new w 25 #[.int .u64 (b : Int), .slice A0 l0.length c0]
  go_enter Try.func6, Try.ntmps6
  have z1 : (w.alloc (.cells #[.int .u64 (b : Int), .slice A0 l0.length c0] 25)).cell? ⟨w.heap.size, 0, none⟩ = some (.int .u64 (b : Int)) := (hk.cell 0).trans rfl
  have z2 := hk.frozen 0
  have z3 : (w.alloc (.cells #[.int .u64 (b : Int), .slice A0 l0.length c0] 25)).cell? ⟨w.heap.size, 1, none⟩ = some (.slice A0 l0.length c0) := (hk.cell 1).trans rfl
  have z4 := hk.frozen 1
  have z5 := hk.lt
  go_wp2_with fail
  with_reducible refine (alive26_any _).mono ?_
  rintro e w1 ⟨rfl, bB⟩
  replace hk := Blk.via0 (g := w.heap.size) (t := 25) bB (by repeat (first | with_reducible exact hk | with_reducible (apply Blk.set_) | with_reducible (apply Blk.far; case hp => (simp <;> omega)) | with_reducible (apply Blk.alloc) | with_reducible (apply Blk.drew)))
  replace hk : Blk w1 w.heap.size 25 #[.int .u64 (b : Int), .slice A0 l0.length c0] := hk
  replace hB := Below.via (w := w) (by have hs_ := hB.size; repeat (first | with_reducible exact hB | with_reducible (refine Below.setCell ?_ (by simp <;> omega) _) | with_reducible (refine Below.alloc ?_ (by first | exact hs_ | (simp <;> omega)) _) | with_reducible (refine Below.drew ?_))) bB
  clear z1 z2 z3 z4 z5
  clear bB
  have z6 : w1.cell? ⟨w.heap.size, 0, none⟩ = some (.int .u64 (b : Int)) := (hk.cell 0).trans rfl
  have z7 := hk.frozen 0
  have z8 : w1.cell? ⟨w.heap.size, 1, none⟩ = some (.slice A0 l0.length c0) := (hk.cell 1).trans rfl
  have z9 := hk.frozen 1
  have z10 := hk.lt
  have S1 := rdR_one (HR0.out.mv hB) hc0 hb
  go_wp2_with fail
  refine (great26_any _ 1 1 [(b, l0)] _ S1 (by omega)).mono ?_
  rintro e wq ⟨rfl, rfl⟩
  rw [HG.out.1]
  clear S1
  cases g1
  rotate_left
  · go_wp2_with fail
    go_ret
    exact ⟨rfl, (by have hs_ := hB.size; repeat (first | with_reducible exact hB | with_reducible (refine Below.setCell ?_ (by simp <;> omega) _) | with_reducible (refine Below.alloc ?_ (by first | exact hs_ | (simp <;> omega)) _) | with_reducible (refine Below.drew ?_)))⟩
  go_wp2_with fail
  refine (great26_any A m c L _ (HRS.out.mv (by have hs_ := hB.size; repeat (first | with_reducible exact hB | with_reducible (refine Below.setCell ?_ (by simp <;> omega) _) | with_reducible (refine Below.alloc ?_ (by first | exact hs_ | (simp <;> omega)) _) | with_reducible (refine Below.drew ?_)))) (by omega)).mono ?_
  rintro e wq ⟨rfl, rfl⟩
  rw [HG.out.2]
  cases g2
  rotate_left
  · go_wp2_with fail
    go_ret
    exact ⟨rfl, (by have hs_ := hB.size; repeat (first | with_reducible exact hB | with_reducible (refine Below.setCell ?_ (by simp <;> omega) _) | with_reducible (refine Below.alloc ?_ (by first | exact hs_ | (simp <;> omega)) _) | with_reducible (refine Below.drew ?_)))⟩
  have hm : m ≤ 1000000 := by have := (grB_bd HG.out.2).1; have := HLn.out; omega
  go_wp2_with fail
  with_reducible refine (heap26_any b A0 l0.length c0 _).mono ?_
  rintro e w2 ⟨rfl, bB⟩
  replace hk := Blk.via0 (g := w.heap.size) (t := 25) bB (by repeat (first | with_reducible exact hk | with_reducible (apply Blk.set_) | with_reducible (apply Blk.far; case hp => (simp <;> omega)) | with_reducible (apply Blk.alloc) | with_reducible (apply Blk.drew)))
  replace hk : Blk w2 w.heap.size 25 #[.int .u64 (b : Int), .slice A0 l0.length c0] := hk
  replace hB := Below.via (w := w) (by have hs_ := hB.size; repeat (first | with_reducible exact hB | with_reducible (refine Below.setCell ?_ (by simp <;> omega) _) | with_reducible (refine Below.alloc ?_ (by first | exact hs_ | (simp <;> omega)) _) | with_reducible (refine Below.drew ?_))) bB
  clear z6 z7 z8 z9 z10
  clear bB
  have z11 : w2.cell? ⟨w.heap.size, 0, none⟩ = some (.int .u64 (b : Int)) := (hk.cell 0).trans rfl
  have z12 := hk.frozen 0
  have z13 : w2.cell? ⟨w.heap.size, 1, none⟩ = some (.slice A0 l0.length c0) := (hk.cell 1).trans rfl
  have z14 := hk.frozen 1
  have z15 := hk.lt
  cases hhp : hpB b l0.length
  · go_wp2_with fail
    go_ret
    exact ⟨rfl, (by have hs_ := hB.size; repeat (first | with_reducible exact hB | with_reducible (refine Below.setCell ?_ (by simp <;> omega) _) | with_reducible (refine Below.alloc ?_ (by first | exact hs_ | (simp <;> omega)) _) | with_reducible (refine Below.drew ?_)))⟩
  have HHP := Lib.hid hhp
  clear hhp
  go_wp2_with fail
  refine (stacks26_any A m c L _ (HRS.out.mv (by have hs_ := hB.size; repeat (first | with_reducible exact hB | with_reducible (refine Below.setCell ?_ (by simp <;> omega) _) | with_reducible (refine Below.alloc ?_ (by first | exact hs_ | (simp <;> omega)) _) | with_reducible (refine Below.drew ?_))))).mono ?_
  rintro e wq ⟨rfl, rfl⟩
  cases hst : stB L
  · go_wp2_with fail
    go_ret
    exact ⟨rfl, (by have hs_ := hB.size; repeat (first | with_reducible exact hB | with_reducible (refine Below.setCell ?_ (by simp <;> omega) _) | with_reducible (refine Below.alloc ?_ (by first | exact hs_ | (simp <;> omega)) _) | with_reducible (refine Below.drew ?_)))⟩
  have HST := Lib.hid hst
  clear hst
  by_cases hq_ : q < 0
  · go_wp2_with fail
    go_ret
    exact ⟨rfl, (by have hs_ := hB.size; repeat (first | with_reducible exact hB | with_reducible (refine Below.setCell ?_ (by simp <;> omega) _) | with_reducible (refine Below.alloc ?_ (by first | exact hs_ | (simp <;> omega)) _) | with_reducible (refine Below.drew ?_)))⟩
  by_cases hq_ : (m : Int) < q
  · go_wp2_with fail
    go_ret
    exact ⟨rfl, (by have hs_ := hB.size; repeat (first | with_reducible exact hB | with_reducible (refine Below.setCell ?_ (by simp <;> omega) _) | with_reducible (refine Below.alloc ?_ (by first | exact hs_ | (simp <;> omega)) _) | with_reducible (refine Below.drew ?_)))⟩
  obtain ⟨W, rfl⟩ : ∃ W : Nat, q = (W : Int) := ⟨q.toNat, by omega⟩
  have hWm : W < 1 + m := by omega
  obtain ⟨vs, v2, v3, v3b, v4w, v5⟩ := HRS.out.ones
  have hB9 := hB.alloc hB.size (.cells #[.int .u64 (b : Int), .slice A0 l0.length c0] 25)
  have v4 := v4w.mv hB9
  have hpe := own_pair (e := 25) (base := w.heap.size) (g := w2.heap.size) hB.size rfl (.int .u64 (b : Int)) (.slice A0 l0.length c0)
  clear v4w
  have hk9 := hk.alloc (.cells #[.int .u64 (b : Int), .slice A0 l0.length c0] 25)
  go_wp2_with (at_builtin; refine wpList_app rfl (.tmp 54) (.tmp 55) _ rfl slRG w.heap.size _ 1 _ rfl hpe _ A m c vs.flatten rfl v4 v3b (by omega) hB9.size ?_; intro A9 c9 w9 o9 hg9 b9 hc9; have hx9 := RdR.cons_ HLn.out v2 v3 (fun k p hp => by obtain ⟨Ai, ci, g1, g2, g3, g4⟩ := v5 k p hp; exact ⟨Ai, ci, g1, g2, g3.mv (hB9.trans b9), g4⟩) (HR0.out.mv (hB9.trans b9)) hc0 hb o9; have hB9 := hB9.trans b9; obtain ⟨ad, bx, lx, Ax, cx, hA9, hab, hz, cc0, cc1, hci, rl, hbx⟩ := hx9.at_ hWm; have hA9' := Lib.hid hA9; have HZ := Lib.hid hz; clear hz hx9; have HRL := Lib.hid rl; clear rl; have HA9 := hA9'; subst hA9; have cc2 : w9.cell? { block := (ad.add (W * 2)).block, off := (ad.add (W * 2)).off + 1 } = some (.slice Ax lx.length cx) := (by have e : ({ block := (ad.add (W * 2)).block, off := (ad.add (W * 2)).off + 1 } : Addr) = ad.add (W * 2 + 1) := (by simp [Addr.add]; split <;> simp <;> omega); rw [e]; exact cc1); have hkk := hk9.grown hg9 (fun e => absurd (Option.some.inj (show some w.heap.size = some w2.heap.size from e)) (by have h := hk.lt; omega)); have q0 : w9.cell? ⟨w.heap.size, 0, none⟩ = some (.int .u64 (b : Int)) := (hkk.cell 0).trans rfl; have q1 : w9.cell? ⟨w.heap.size, 1, none⟩ = some (.slice A0 l0.length c0) := (hkk.cell 1).trans rfl; have q2 : ∀ ob_, (w9.alloc ob_).cell? ⟨w.heap.size, 0, none⟩ = some (.int .u64 (b : Int)) := (fun ob_ => ((Blk.alloc hkk ob_).cell 0).trans rfl); have q3 : ∀ ob_, (w9.alloc ob_).cell? ⟨w.heap.size, 1, none⟩ = some (.slice A0 l0.length c0) := (fun ob_ => ((Blk.alloc hkk ob_).cell 1).trans rfl); have hx := HPX.out W bx lx HZ.out; have hmem := hx.1; have hbl := hx.2; clear hx)
  replace hk := hkk
  replace hB := hB9
  have hmem2 := base_lo HHP.out HST.out hmem
  simp only at hmem2
  obtain ⟨en, hen⟩ : ∃ en, bx + lx.length = en := ⟨_, rfl⟩
  obtain ⟨bm, hbm⟩ : ∃ bm, bx - 1 = bm := ⟨_, rfl⟩
  obtain ⟨mm, hmm⟩ : ∃ mm, min lx.length 4096 = mm := ⟨_, rfl⟩
  have hmm1 : mm ≤ 4096 ∧ mm ≤ lx.length := by omega
  have hen64 : en < 18446744073709551616 := by omega
  have hbm64 : bm < 18446744073709551616 := by omega
  have E1 := by_end HHP.out HST.out hmem
  have E2 := by_before HHP.out HST.out hmem
  have E3 := by_some (at_ := bx) (n := mm) HHP.out HST.out hmm1.1 (by omega) hmem (by simp only [hasB, Bool.and_eq_true, decide_eq_true_eq]; omega)
  simp only [Nat.sub_self, List.drop_zero] at E1 E2 E3
  rw [hen] at E1
  rw [hbm] at E2
  have hwe : IntKind.u64.wrap ((bx : Int) + (lx.length : Int)) = (en : Int) := by rw [IntKind.wrap_u64]; omega
  have hwb : IntKind.u64.wrap ((bx : Int) - 1) = (bm : Int) := by rw [IntKind.wrap_u64]; omega
  have hmi : min (lx.length : Int) 4096 = (mm : Int) := by omega
  have HC1 := Lib.hid (fun W (h0 : Rb W A0 l0.length l0) (h1 : RdR W A m L) => bytes_any b A0 l0.length c0 l0 A m c L en 1 W h0 hc0 hb h1 hm hen64)
  have HC2 := Lib.hid (fun W (h0 : Rb W A0 l0.length l0) (h1 : RdR W A m L) => bytes_any b A0 l0.length c0 l0 A m c L bm 1 W h0 hc0 hb h1 hm hbm64)
  have HC3 := Lib.hid (fun W (h0 : Rb W A0 l0.length l0) (h1 : RdR W A m L) => bytes_any b A0 l0.length c0 l0 A m c L bx (mm : Int) W h0 hc0 hb h1 hm hbx)
  unfold ByP at HC1 HC2 HC3
  rw [(by_no E1 (by decide)).2, E1] at HC1
  rw [(by_no E2 (by decide)).2, E2] at HC2
  rw [E3.2, E3.1] at HC3
  obtain ⟨T3, hT3⟩ : ∃ T3, lx.take mm = T3 := ⟨_, rfl⟩
  rw [hT3] at HC3
  have HT3 := Lib.hid hT3
  have SH := sl_head Ax lx.length cx mm (b := (mm : Int)) rfl (by omega)
  have hsub : ∀ W, Rb W Ax lx.length lx → Rb W (sA Ax cx 0) mm T3 := fun W h => by
    have := sub_reads h (i := 0) (v := mm) (by omega) hci.1
    rwa [List.drop_zero, hT3] at this
  have HSUB := Lib.hid hsub
  have HMEM := Lib.hid hmem
  have HRX := Lib.hid (fun W (h : Below w9.heap.size w9 W) => HRL.out.mv h)
  have hBr := Below.refl w9.heap.size w9
  have HMM := Lib.hid hmm
  clear hkk hB9 hen hbm hmm hmi E1 E2 E3 hT3 hsub hmem b9 hg9 o9 hpe hk9 v2 v3 v3b v4 v5 q0 q1 q2 q3 cc0 cc1 cc2 hc9 hab
  rw [hwe]
  have zz0 := hk.lt
  with_reducible refine (HC1.out _ (HR0.out.mv (by have hs_ := hB.size; repeat (first | with_reducible exact hB | with_reducible (refine Below.setCell ?_ (by simp <;> omega) _) | with_reducible (refine Below.alloc ?_ (by first | exact hs_ | (simp <;> omega)) _) | with_reducible (refine Below.drew ?_)))) (HRS.out.mv (by have hs_ := hB.size; repeat (first | with_reducible exact hB | with_reducible (refine Below.setCell ?_ (by simp <;> omega) _) | with_reducible (refine Below.alloc ?_ (by first | exact hs_ | (simp <;> omega)) _) | with_reducible (refine Below.drew ?_))))).mono ?_
  rintro e w10 ⟨A10, c10, rfl, o10, bB⟩
  have o_hk_ht : w.heap.size < w9.heap.size := (by omega)
  have ow_ht : w.heap.size ≤ w9.heap.size := (by have := hB.size; omega)
  replace hk := Blk.via0 (g := w.heap.size) (t := 25) bB (by repeat (first | with_reducible exact hk | with_reducible (apply Blk.set_) | with_reducible (apply Blk.far; case hp => (simp <;> omega)) | with_reducible (apply Blk.alloc) | with_reducible (apply Blk.drew)))
  replace hk : Blk w10 w.heap.size 25 #[.int .u64 (b : Int), .slice A0 l0.length c0] := hk
  have ht := Blk.via0 (g := w9.heap.size) (t := 25) bB (by repeat (first | with_reducible exact Blk.newAt (by simp) _ _ | with_reducible (apply Blk.set_) | with_reducible (apply Blk.far; case hp => (simp <;> omega)) | with_reducible (apply Blk.alloc) | with_reducible (apply Blk.drew)))
  replace ht : Blk w10 w9.heap.size 25 #[.int .u64 (bx : Int), .slice Ax lx.length cx] := ht
  replace hBr := Below.via (w := w9) (by have hs_ := hBr.size; repeat (first | with_reducible exact hBr | with_reducible (refine Below.setCell ?_ (by simp <;> omega) _) | with_reducible (refine Below.alloc ?_ (by first | exact hs_ | (simp <;> omega)) _) | with_reducible (refine Below.drew ?_))) bB
  replace hB := Below.via (w := w) (by have hs_ := hB.size; repeat (first | with_reducible exact hB | with_reducible (refine Below.setCell ?_ (by simp <;> omega) _) | with_reducible (refine Below.alloc ?_ (by first | exact hs_ | (simp <;> omega)) _) | with_reducible (refine Below.drew ?_))) bB
  clear zz0
  clear bB
  generalize w9.heap.size = pt at ht ow_ht o_hk_ht ⊢
  clear o10
  have z16 : w10.cell? ⟨w.heap.size, 0, none⟩ = some (.int .u64 (b : Int)) := (hk.cell 0).trans rfl
  have z17 := hk.frozen 0
  have z18 : w10.cell? ⟨w.heap.size, 1, none⟩ = some (.slice A0 l0.length c0) := (hk.cell 1).trans rfl
  have z19 := hk.frozen 1
  have z20 : w10.cell? ⟨pt, 0, none⟩ = some (.int .u64 (bx : Int)) := (ht.cell 0).trans rfl
  have z21 := ht.frozen 0
  have z22 : w10.cell? ⟨pt, 1, none⟩ = some (.slice Ax lx.length cx) := (ht.cell 1).trans rfl
  have z23 := ht.frozen 1
  have z24 := hk.lt
  have z25 := ht.lt
  go_wp2_with fail
  try rw [hwb]
  with_reducible refine (HC2.out _ (HR0.out.mv (by have hs_ := hB.size; repeat (first | with_reducible exact hB | with_reducible (refine Below.setCell ?_ (by simp <;> omega) _) | with_reducible (refine Below.alloc ?_ (by first | exact hs_ | (simp <;> omega)) _) | with_reducible (refine Below.drew ?_)))) (HRS.out.mv (by have hs_ := hB.size; repeat (first | with_reducible exact hB | with_reducible (refine Below.setCell ?_ (by simp <;> omega) _) | with_reducible (refine Below.alloc ?_ (by first | exact hs_ | (simp <;> omega)) _) | with_reducible (refine Below.drew ?_))))).mono ?_
  rintro e w11 ⟨A11, c11, rfl, o11, bB⟩
  replace hk := Blk.via0 (g := w.heap.size) (t := 25) bB (by repeat (first | with_reducible exact hk | with_reducible (apply Blk.set_) | with_reducible (apply Blk.far; case hp => (simp <;> omega)) | with_reducible (apply Blk.alloc) | with_reducible (apply Blk.drew)))
  replace hk : Blk w11 w.heap.size 25 #[.int .u64 (b : Int), .slice A0 l0.length c0] := hk
  replace ht := Blk.via0 (g := pt) (t := 25) bB (by repeat (first | with_reducible exact ht | with_reducible (apply Blk.set_) | with_reducible (apply Blk.far; case hp => (simp <;> omega)) | with_reducible (apply Blk.alloc) | with_reducible (apply Blk.drew)))
  replace ht : Blk w11 pt 25 #[.int .u64 (bx : Int), .slice Ax lx.length cx] := ht
  replace hBr := Below.via (w := w9) (by have hs_ := hBr.size; repeat (first | with_reducible exact hBr | with_reducible (refine Below.setCell ?_ (by simp <;> omega) _) | with_reducible (refine Below.alloc ?_ (by first | exact hs_ | (simp <;> omega)) _) | with_reducible (refine Below.drew ?_))) bB
  replace hB := Below.via (w := w) (by have hs_ := hB.size; repeat (first | with_reducible exact hB | with_reducible (refine Below.setCell ?_ (by simp <;> omega) _) | with_reducible (refine Below.alloc ?_ (by first | exact hs_ | (simp <;> omega)) _) | with_reducible (refine Below.drew ?_))) bB
  clear z16 z17 z18 z19 z20 z21 z22 z23 z24 z25
  clear bB
  clear o11
  have z26 : w11.cell? ⟨w.heap.size, 0, none⟩ = some (.int .u64 (b : Int)) := (hk.cell 0).trans rfl
  have z27 := hk.frozen 0
  have z28 : w11.cell? ⟨w.heap.size, 1, none⟩ = some (.slice A0 l0.length c0) := (hk.cell 1).trans rfl
  have z29 := hk.frozen 1
  have z30 : w11.cell? ⟨pt, 0, none⟩ = some (.int .u64 (bx : Int)) := (ht.cell 0).trans rfl
  have z31 := ht.frozen 0
  have z32 : w11.cell? ⟨pt, 1, none⟩ = some (.slice Ax lx.length cx) := (ht.cell 1).trans rfl
  have z33 := ht.frozen 1
  have z34 := hk.lt
  have z35 := ht.lt
  by_cases hmn : lx.length ≤ 4096
  · have hmn2 : (lx.length : Int) ≤ 4096 := by omega
    obtain rfl : mm = lx.length := by have := HMM.out; omega
    have SH2 := sl_head Ax lx.length cx lx.length (b := min (lx.length : Int) 4096) (by omega) (by omega)
    go_wp2_with fail
    with_reducible refine (HC3.out _ (HR0.out.mv (by have hs_ := hB.size; repeat (first | with_reducible exact hB | with_reducible (refine Below.setCell ?_ (by simp <;> omega) _) | with_reducible (refine Below.alloc ?_ (by first | exact hs_ | (simp <;> omega)) _) | with_reducible (refine Below.drew ?_)))) (HRS.out.mv (by have hs_ := hB.size; repeat (first | with_reducible exact hB | with_reducible (refine Below.setCell ?_ (by simp <;> omega) _) | with_reducible (refine Below.alloc ?_ (by first | exact hs_ | (simp <;> omega)) _) | with_reducible (refine Below.drew ?_))))).mono ?_
    rintro e w12 ⟨A12, c12, rfl, o12, bB⟩
    have ne_o12_hk : (Value.slice A12 T3.length c12).ownBlock ≠ some w.heap.size := own_not_lt o12 (by first | omega | (simp <;> omega))
    have ne_o12_ht : (Value.slice A12 T3.length c12).ownBlock ≠ some pt := own_not_lt o12 (by first | omega | (simp <;> omega))
    replace o12 := own_low o12 (show w.heap.size ≤ _ from by have hs_ := hB.size; simp <;> omega)
    replace hk := Blk.via0 (g := w.heap.size) (t := 25) bB (by repeat (first | with_reducible exact hk | with_reducible (apply Blk.set_) | with_reducible (apply Blk.far; case hp => (simp <;> omega)) | with_reducible (apply Blk.alloc) | with_reducible (apply Blk.drew)))
    replace hk : Blk w12 w.heap.size 25 #[.int .u64 (b : Int), .slice A0 l0.length c0] := hk
    replace ht := Blk.via0 (g := pt) (t := 25) bB (by repeat (first | with_reducible exact ht | with_reducible (apply Blk.set_) | with_reducible (apply Blk.far; case hp => (simp <;> omega)) | with_reducible (apply Blk.alloc) | with_reducible (apply Blk.drew)))
    replace ht : Blk w12 pt 25 #[.int .u64 (bx : Int), .slice Ax lx.length cx] := ht
    replace hBr := Below.via (w := w9) (by have hs_ := hBr.size; repeat (first | with_reducible exact hBr | with_reducible (refine Below.setCell ?_ (by simp <;> omega) _) | with_reducible (refine Below.alloc ?_ (by first | exact hs_ | (simp <;> omega)) _) | with_reducible (refine Below.drew ?_))) bB
    replace hB := Below.via (w := w) (by have hs_ := hB.size; repeat (first | with_reducible exact hB | with_reducible (refine Below.setCell ?_ (by simp <;> omega) _) | with_reducible (refine Below.alloc ?_ (by first | exact hs_ | (simp <;> omega)) _) | with_reducible (refine Below.drew ?_))) bB
    clear z26 z27 z28 z29 z30 z31 z32 z33 z34 z35
    clear bB
    have z36 : w12.cell? ⟨w.heap.size, 0, none⟩ = some (.int .u64 (b : Int)) := (hk.cell 0).trans rfl
    have z37 := hk.frozen 0
    have z38 : w12.cell? ⟨w.heap.size, 1, none⟩ = some (.slice A0 l0.length c0) := (hk.cell 1).trans rfl
    have z39 := hk.frozen 1
    have z40 : w12.cell? ⟨pt, 0, none⟩ = some (.int .u64 (bx : Int)) := (ht.cell 0).trans rfl
    have z41 := ht.frozen 0
    have z42 : w12.cell? ⟨pt, 1, none⟩ = some (.slice Ax lx.length cx) := (ht.cell 1).trans rfl
    have z43 := ht.frozen 1
    have z44 := hk.lt
    have z45 := ht.lt
    have z46 : ∀ q_, (w12.drewN q_).cell? ⟨pt, 0, none⟩ = some (.int .u64 (bx : Int)) := fun q_ => (((ht : Blk w12 _ _ _).drewN q_).cell 0).trans rfl
    have z47 : ∀ q_, (w12.drewN q_).cell? ⟨pt, 1, none⟩ = some (.slice Ax lx.length cx) := fun q_ => (((ht : Blk w12 _ _ _).drewN q_).cell 1).trans rfl
    have K1 := cvS c12 (own_rd o12)
    have K2 := cvS cx (HSUB.out _ (HRX.out _ hBr))
    have K1q := fun q => cvS (w := w12.drewN q) c12 (Reads.drewN (own_rd o12) q)
    have K2q := fun q => cvS (w := w12.drewN q) cx (Reads.drewN (HSUB.out _ (HRX.out _ hBr)) q)
    go_wp2_with fail
    go_quiet (fail)
    clear K1 K2 K1q K2q
    have bB : Below w12.heap.size w12 (w12.drewN nq) := below_drewN' (Below.refl _ _) nq
    generalize w12.drewN nq = w13 at bB ⊢
    replace hk := Blk.via0 (g := w.heap.size) (t := 25) bB (by repeat (first | with_reducible exact hk | with_reducible (apply Blk.set_) | with_reducible (apply Blk.far; case hp => (simp <;> omega)) | with_reducible (apply Blk.alloc) | with_reducible (apply Blk.drew)))
    replace hk : Blk w13 w.heap.size 25 #[.int .u64 (b : Int), .slice A0 l0.length c0] := hk
    replace ht := Blk.via0 (g := pt) (t := 25) bB (by repeat (first | with_reducible exact ht | with_reducible (apply Blk.set_) | with_reducible (apply Blk.far; case hp => (simp <;> omega)) | with_reducible (apply Blk.alloc) | with_reducible (apply Blk.drew)))
    replace ht : Blk w13 pt 25 #[.int .u64 (bx : Int), .slice Ax lx.length cx] := ht
    replace o12 := own_call (by repeat (first | with_reducible exact o12 | (with_reducible apply own_set_; case hne => first | exact ne_o12_hk | exact ne_o12_ht) | with_reducible (apply own_alloc_) | with_reducible (apply own_drew_))) bB
    replace hBr := Below.via (w := w9) (by have hs_ := hBr.size; repeat (first | with_reducible exact hBr | with_reducible (refine Below.setCell ?_ (by simp <;> omega) _) | with_reducible (refine Below.alloc ?_ (by first | exact hs_ | (simp <;> omega)) _) | with_reducible (refine Below.drew ?_))) bB
    replace hB := Below.via (w := w) (by have hs_ := hB.size; repeat (first | with_reducible exact hB | with_reducible (refine Below.setCell ?_ (by simp <;> omega) _) | with_reducible (refine Below.alloc ?_ (by first | exact hs_ | (simp <;> omega)) _) | with_reducible (refine Below.drew ?_))) bB
    clear z36 z37 z38 z39 z40 z41 z42 z43 z44 z45 z46 z47
    clear bB
    clear o12
    have z48 : w13.cell? ⟨w.heap.size, 0, none⟩ = some (.int .u64 (b : Int)) := (hk.cell 0).trans rfl
    have z49 := hk.frozen 0
    have z50 : w13.cell? ⟨w.heap.size, 1, none⟩ = some (.slice A0 l0.length c0) := (hk.cell 1).trans rfl
    have z51 := hk.frozen 1
    have z52 : w13.cell? ⟨pt, 0, none⟩ = some (.int .u64 (bx : Int)) := (ht.cell 0).trans rfl
    have z53 := ht.frozen 0
    have z54 : w13.cell? ⟨pt, 1, none⟩ = some (.slice Ax lx.length cx) := (ht.cell 1).trans rfl
    have z55 := ht.frozen 1
    have z56 := hk.lt
    have z57 := ht.lt
    by_cases hn0 : n < 0
    · go_wp2_with fail
      go_ret
      exact ⟨rfl, (by have hs_ := hB.size; repeat (first | with_reducible exact hB | with_reducible (refine Below.setCell ?_ (by simp <;> omega) _) | with_reducible (refine Below.alloc ?_ (by first | exact hs_ | (simp <;> omega)) _) | with_reducible (refine Below.drew ?_)))⟩
    by_cases hn1 : (lx.length : Int) ≤ n
    · go_wp2_with fail
      go_ret
      exact ⟨rfl, (by have hs_ := hB.size; repeat (first | with_reducible exact hB | with_reducible (refine Below.setCell ?_ (by simp <;> omega) _) | with_reducible (refine Below.alloc ?_ (by first | exact hs_ | (simp <;> omega)) _) | with_reducible (refine Below.drew ?_)))⟩
    obtain ⟨N, rfl⟩ : ∃ N : Nat, n = (N : Int) := ⟨n.toNat, by omega⟩
    have hNl : N < lx.length := by omega
    obtain ⟨e4, he4⟩ : ∃ e4, bx + N = e4 := ⟨_, rfl⟩
    have he464 : e4 < 18446744073709551616 := by omega
    have E4 := by_some (at_ := e4) (n := 1) HHP.out HST.out (by omega) (by omega) HMEM.out (by simp only [hasB, Bool.and_eq_true, decide_eq_true_eq]; omega)
    simp only at E4
    rw [show e4 - bx = N from by omega] at E4
    have hwN : IntKind.u64.wrap (N : Int) = (N : Int) := by rw [IntKind.wrap_u64]; omega
    have hwe4 : IntKind.u64.wrap ((bx : Int) + (N : Int)) = (e4 : Int) := by rw [IntKind.wrap_u64]; omega
    have HC4 := Lib.hid (fun W (h0 : Rb W A0 l0.length l0) (h1 : RdR W A m L) => bytes_any b A0 l0.length c0 l0 A m c L e4 ((1 : Nat) : Int) W h0 hc0 hb h1 hm he464)
    unfold ByP at HC4
    rw [E4.2, E4.1] at HC4
    obtain ⟨T4, hT4⟩ : ∃ T4, (lx.drop N).take 1 = T4 := ⟨_, rfl⟩
    rw [hT4] at HC4
    have hT4l : T4.length = 1 := by rw [← hT4, List.length_take, List.length_drop]; omega
    rw [hT4l] at HC4
    have HT4 := Lib.hid hT4
    clear he4 E4 hT4 hT4l hn0 hn1
    go_wp2_with fail
    refine (HC4.out _ (HR0.out.mv (by have hs_ := hB.size; repeat (first | with_reducible exact hB | with_reducible (refine Below.setCell ?_ (by simp <;> omega) _) | with_reducible (refine Below.alloc ?_ (by first | exact hs_ | (simp <;> omega)) _) | with_reducible (refine Below.drew ?_)))) (HRS.out.mv (by have hs_ := hB.size; repeat (first | with_reducible exact hB | with_reducible (refine Below.setCell ?_ (by simp <;> omega) _) | with_reducible (refine Below.alloc ?_ (by first | exact hs_ | (simp <;> omega)) _) | with_reducible (refine Below.drew ?_))))).mono ?_
    rintro e w14 ⟨A14, c14, rfl, o14, bB⟩
    replace hk := Blk.via0 (g := w.heap.size) (t := 25) bB (by repeat (first | with_reducible exact hk | with_reducible (apply Blk.set_) | with_reducible (apply Blk.far; case hp => (simp <;> omega)) | with_reducible (apply Blk.alloc) | with_reducible (apply Blk.drew)))
    replace hk : Blk w14 w.heap.size 25 #[.int .u64 (b : Int), .slice A0 l0.length c0] := hk
    replace ht := Blk.via0 (g := pt) (t := 25) bB (by repeat (first | with_reducible exact ht | with_reducible (apply Blk.set_) | with_reducible (apply Blk.far; case hp => (simp <;> omega)) | with_reducible (apply Blk.alloc) | with_reducible (apply Blk.drew)))
    replace ht : Blk w14 pt 25 #[.int .u64 (bx : Int), .slice Ax lx.length cx] := ht
    replace hBr := Below.via (w := w9) (by have hs_ := hBr.size; repeat (first | with_reducible exact hBr | with_reducible (refine Below.setCell ?_ (by simp <;> omega) _) | with_reducible (refine Below.alloc ?_ (by first | exact hs_ | (simp <;> omega)) _) | with_reducible (refine Below.drew ?_))) bB
    replace hB := Below.via (w := w) (by have hs_ := hB.size; repeat (first | with_reducible exact hB | with_reducible (refine Below.setCell ?_ (by simp <;> omega) _) | with_reducible (refine Below.alloc ?_ (by first | exact hs_ | (simp <;> omega)) _) | with_reducible (refine Below.drew ?_))) bB
    clear z48 z49 z50 z51 z52 z53 z54 z55 z56 z57
    clear bB
    obtain ⟨g14, rfl, _⟩ := own_head o14 (by omega)
    have R14 := own_rd o14
    obtain ⟨ad4, c4, hA4, _, hc4, _⟩ := R14.byte (k := 0) (by omega)
    have q14 := reads_cell R14 (by omega) 0 (v := .int .u8 (c4.toNat : Int)) (by rw [List.getElem?_map, hc4]; rfl)
    obtain ⟨adx, cN, hAx, hadx, hcN, hcell⟩ := (HRX.out _ hBr).byte (k := N) hNl
    have hcc : c4 = cN := by
      rw [← HT4.out, List.getElem?_take, if_pos (by omega), List.getElem?_drop, Nat.add_zero, hcN] at hc4
      exact (Option.some.inj hc4).symm
    subst hcc
    clear hc4 hcN hA4 R14 o14
    subst hAx
    have q14q : ∀ q_, (w14.drewN q_).cell? ⟨g14, 0, none⟩ = some (.int .u8 (c4.toNat : Int)) := fun q_ => q14
    have qxq : ∀ q_, (w14.drewN q_).cell? (adx.add N) = some (.int .u8 (c4.toNat : Int)) := fun q_ => hcell
    have z58 : w14.cell? ⟨w.heap.size, 0, none⟩ = some (.int .u64 (b : Int)) := (hk.cell 0).trans rfl
    have z59 := hk.frozen 0
    have z60 : w14.cell? ⟨w.heap.size, 1, none⟩ = some (.slice A0 l0.length c0) := (hk.cell 1).trans rfl
    have z61 := hk.frozen 1
    have z62 : w14.cell? ⟨pt, 0, none⟩ = some (.int .u64 (bx : Int)) := (ht.cell 0).trans rfl
    have z63 := ht.frozen 0
    have z64 : w14.cell? ⟨pt, 1, none⟩ = some (.slice (some adx) lx.length cx) := (ht.cell 1).trans rfl
    have z65 := ht.frozen 1
    have z66 := hk.lt
    have z67 := ht.lt
    have z68 : ∀ q_, (w14.drewN q_).cell? ⟨pt, 0, none⟩ = some (.int .u64 (bx : Int)) := fun q_ => (((ht : Blk w14 _ _ _).drewN q_).cell 0).trans rfl
    have z69 : ∀ q_, (w14.drewN q_).cell? ⟨pt, 1, none⟩ = some (.slice (some adx) lx.length cx) := fun q_ => (((ht : Blk w14 _ _ _).drewN q_).cell 1).trans rfl
    go_wp2_with fail
    go_quiet (fail)
    go_wp2_with fail
    go_ret
    exact ⟨rfl, below_drewN' hB nq⟩
  · have hmn2 : ¬ (lx.length : Int) ≤ 4096 := by omega
    obtain rfl : mm = 4096 := by have := HMM.out; omega
    have SH2 := sl_head Ax lx.length cx 4096 (b := min (lx.length : Int) 4096) (by omega) (by omega)
    have SH3 := sl_head Ax lx.length cx 4096 (b := 4096) rfl (by omega)
    go_wp2_with fail
    refine (HC3.out _ (HR0.out.mv (by have hs_ := hB.size; repeat (first | with_reducible exact hB | with_reducible (refine Below.setCell ?_ (by simp <;> omega) _) | with_reducible (refine Below.alloc ?_ (by first | exact hs_ | (simp <;> omega)) _) | with_reducible (refine Below.drew ?_)))) (HRS.out.mv (by have hs_ := hB.size; repeat (first | with_reducible exact hB | with_reducible (refine Below.setCell ?_ (by simp <;> omega) _) | with_reducible (refine Below.alloc ?_ (by first | exact hs_ | (simp <;> omega)) _) | with_reducible (refine Below.drew ?_))))).mono ?_
    rintro e w12 ⟨A12, c12, rfl, o12, bB⟩
    have ne_o12_hk : (Value.slice A12 T3.length c12).ownBlock ≠ some w.heap.size := own_not_lt o12 (by first | omega | (simp <;> omega))
    have ne_o12_ht : (Value.slice A12 T3.length c12).ownBlock ≠ some pt := own_not_lt o12 (by first | omega | (simp <;> omega))
    replace o12 := own_low o12 (show w.heap.size ≤ _ from by have hs_ := hB.size; simp <;> omega)
    replace hk := Blk.via0 (g := w.heap.size) (t := 25) bB (by repeat (first | with_reducible exact hk | with_reducible (apply Blk.set_) | with_reducible (apply Blk.far; case hp => (simp <;> omega)) | with_reducible (apply Blk.alloc) | with_reducible (apply Blk.drew)))
    replace hk : Blk w12 w.heap.size 25 #[.int .u64 (b : Int), .slice A0 l0.length c0] := hk
    replace ht := Blk.via0 (g := pt) (t := 25) bB (by repeat (first | with_reducible exact ht | with_reducible (apply Blk.set_) | with_reducible (apply Blk.far; case hp => (simp <;> omega)) | with_reducible (apply Blk.alloc) | with_reducible (apply Blk.drew)))
    replace ht : Blk w12 pt 25 #[.int .u64 (bx : Int), .slice Ax lx.length cx] := ht
    replace hBr := Below.via (w := w9) (by have hs_ := hBr.size; repeat (first | with_reducible exact hBr | with_reducible (refine Below.setCell ?_ (by simp <;> omega) _) | with_reducible (refine Below.alloc ?_ (by first | exact hs_ | (simp <;> omega)) _) | with_reducible (refine Below.drew ?_))) bB
    replace hB := Below.via (w := w) (by have hs_ := hB.size; repeat (first | with_reducible exact hB | with_reducible (refine Below.setCell ?_ (by simp <;> omega) _) | with_reducible (refine Below.alloc ?_ (by first | exact hs_ | (simp <;> omega)) _) | with_reducible (refine Below.drew ?_))) bB
    clear z26 z27 z28 z29 z30 z31 z32 z33 z34 z35
    clear bB
    have z36 : w12.cell? ⟨w.heap.size, 0, none⟩ = some (.int .u64 (b : Int)) := (hk.cell 0).trans rfl
    have z37 := hk.frozen 0
    have z38 : w12.cell? ⟨w.heap.size, 1, none⟩ = some (.slice A0 l0.length c0) := (hk.cell 1).trans rfl
    have z39 := hk.frozen 1
    have z40 : w12.cell? ⟨pt, 0, none⟩ = some (.int .u64 (bx : Int)) := (ht.cell 0).trans rfl
    have z41 := ht.frozen 0
    have z42 : w12.cell? ⟨pt, 1, none⟩ = some (.slice Ax lx.length cx) := (ht.cell 1).trans rfl
    have z43 := ht.frozen 1
    have z44 := hk.lt
    have z45 := ht.lt
    have z46 : ∀ q_, (w12.drewN q_).cell? ⟨pt, 0, none⟩ = some (.int .u64 (bx : Int)) := fun q_ => (((ht : Blk w12 _ _ _).drewN q_).cell 0).trans rfl
    have z47 : ∀ q_, (w12.drewN q_).cell? ⟨pt, 1, none⟩ = some (.slice Ax lx.length cx) := fun q_ => (((ht : Blk w12 _ _ _).drewN q_).cell 1).trans rfl
    have K1 := cvS c12 (own_rd o12)
    have K2 := cvS cx (HSUB.out _ (HRX.out _ hBr))
    have K1q := fun q => cvS (w := w12.drewN q) c12 (Reads.drewN (own_rd o12) q)
    have K2q := fun q => cvS (w := w12.drewN q) cx (Reads.drewN (HSUB.out _ (HRX.out _ hBr)) q)
    go_wp2_with fail
    go_quiet (fail)
    clear K1 K2 K1q K2q
    have bB : Below w12.heap.size w12 (w12.drewN nq) := below_drewN' (Below.refl _ _) nq
    generalize w12.drewN nq = w13 at bB ⊢
    replace hk := Blk.via0 (g := w.heap.size) (t := 25) bB (by repeat (first | with_reducible exact hk | with_reducible (apply Blk.set_) | with_reducible (apply Blk.far; case hp => (simp <;> omega)) | with_reducible (apply Blk.alloc) | with_reducible (apply Blk.drew)))
    replace hk : Blk w13 w.heap.size 25 #[.int .u64 (b : Int), .slice A0 l0.length c0] := hk
    replace ht := Blk.via0 (g := pt) (t := 25) bB (by repeat (first | with_reducible exact ht | with_reducible (apply Blk.set_) | with_reducible (apply Blk.far; case hp => (simp <;> omega)) | with_reducible (apply Blk.alloc) | with_reducible (apply Blk.drew)))
    replace ht : Blk w13 pt 25 #[.int .u64 (bx : Int), .slice Ax lx.length cx] := ht
    replace o12 := own_call (by repeat (first | with_reducible exact o12 | (with_reducible apply own_set_; case hne => first | exact ne_o12_hk | exact ne_o12_ht) | with_reducible (apply own_alloc_) | with_reducible (apply own_drew_))) bB
    replace hBr := Below.via (w := w9) (by have hs_ := hBr.size; repeat (first | with_reducible exact hBr | with_reducible (refine Below.setCell ?_ (by simp <;> omega) _) | with_reducible (refine Below.alloc ?_ (by first | exact hs_ | (simp <;> omega)) _) | with_reducible (refine Below.drew ?_))) bB
    replace hB := Below.via (w := w) (by have hs_ := hB.size; repeat (first | with_reducible exact hB | with_reducible (refine Below.setCell ?_ (by simp <;> omega) _) | with_reducible (refine Below.alloc ?_ (by first | exact hs_ | (simp <;> omega)) _) | with_reducible (refine Below.drew ?_))) bB
    clear z36 z37 z38 z39 z40 z41 z42 z43 z44 z45 z46 z47
    clear bB
    clear o12
    have z48 : w13.cell? ⟨w.heap.size, 0, none⟩ = some (.int .u64 (b : Int)) := (hk.cell 0).trans rfl
    have z49 := hk.frozen 0
    have z50 : w13.cell? ⟨w.heap.size, 1, none⟩ = some (.slice A0 l0.length c0) := (hk.cell 1).trans rfl
    have z51 := hk.frozen 1
    have z52 : w13.cell? ⟨pt, 0, none⟩ = some (.int .u64 (bx : Int)) := (ht.cell 0).trans rfl
    have z53 := ht.frozen 0
    have z54 : w13.cell? ⟨pt, 1, none⟩ = some (.slice Ax lx.length cx) := (ht.cell 1).trans rfl
    have z55 := ht.frozen 1
    have z56 := hk.lt
    have z57 := ht.lt
    by_cases hn0 : n < 0
    · go_wp2_with fail
      go_ret
      exact ⟨rfl, (by have hs_ := hB.size; repeat (first | with_reducible exact hB | with_reducible (refine Below.setCell ?_ (by simp <;> omega) _) | with_reducible (refine Below.alloc ?_ (by first | exact hs_ | (simp <;> omega)) _) | with_reducible (refine Below.drew ?_)))⟩
    by_cases hn1 : (lx.length : Int) ≤ n
    · go_wp2_with fail
      go_ret
      exact ⟨rfl, (by have hs_ := hB.size; repeat (first | with_reducible exact hB | with_reducible (refine Below.setCell ?_ (by simp <;> omega) _) | with_reducible (refine Below.alloc ?_ (by first | exact hs_ | (simp <;> omega)) _) | with_reducible (refine Below.drew ?_)))⟩
    obtain ⟨N, rfl⟩ : ∃ N : Nat, n = (N : Int) := ⟨n.toNat, by omega⟩
    have hNl : N < lx.length := by omega
    obtain ⟨e4, he4⟩ : ∃ e4, bx + N = e4 := ⟨_, rfl⟩
    have he464 : e4 < 18446744073709551616 := by omega
    have E4 := by_some (at_ := e4) (n := 1) HHP.out HST.out (by omega) (by omega) HMEM.out (by simp only [hasB, Bool.and_eq_true, decide_eq_true_eq]; omega)
    simp only at E4
    rw [show e4 - bx = N from by omega] at E4
    have hwN : IntKind.u64.wrap (N : Int) = (N : Int) := by rw [IntKind.wrap_u64]; omega
    have hwe4 : IntKind.u64.wrap ((bx : Int) + (N : Int)) = (e4 : Int) := by rw [IntKind.wrap_u64]; omega
    have HC4 := Lib.hid (fun W (h0 : Rb W A0 l0.length l0) (h1 : RdR W A m L) => bytes_any b A0 l0.length c0 l0 A m c L e4 ((1 : Nat) : Int) W h0 hc0 hb h1 hm he464)
    unfold ByP at HC4
    rw [E4.2, E4.1] at HC4
    obtain ⟨T4, hT4⟩ : ∃ T4, (lx.drop N).take 1 = T4 := ⟨_, rfl⟩
    rw [hT4] at HC4
    have hT4l : T4.length = 1 := by rw [← hT4, List.length_take, List.length_drop]; omega
    rw [hT4l] at HC4
    have HT4 := Lib.hid hT4
    clear he4 E4 hT4 hT4l hn0 hn1
    go_wp2_with fail
    refine (HC4.out _ (HR0.out.mv (by have hs_ := hB.size; repeat (first | with_reducible exact hB | with_reducible (refine Below.setCell ?_ (by simp <;> omega) _) | with_reducible (refine Below.alloc ?_ (by first | exact hs_ | (simp <;> omega)) _) | with_reducible (refine Below.drew ?_)))) (HRS.out.mv (by have hs_ := hB.size; repeat (first | with_reducible exact hB | with_reducible (refine Below.setCell ?_ (by simp <;> omega) _) | with_reducible (refine Below.alloc ?_ (by first | exact hs_ | (simp <;> omega)) _) | with_reducible (refine Below.drew ?_))))).mono ?_
    rintro e w14 ⟨A14, c14, rfl, o14, bB⟩
    replace hk := Blk.via0 (g := w.heap.size) (t := 25) bB (by repeat (first | with_reducible exact hk | with_reducible (apply Blk.set_) | with_reducible (apply Blk.far; case hp => (simp <;> omega)) | with_reducible (apply Blk.alloc) | with_reducible (apply Blk.drew)))
    replace hk : Blk w14 w.heap.size 25 #[.int .u64 (b : Int), .slice A0 l0.length c0] := hk
    replace ht := Blk.via0 (g := pt) (t := 25) bB (by repeat (first | with_reducible exact ht | with_reducible (apply Blk.set_) | with_reducible (apply Blk.far; case hp => (simp <;> omega)) | with_reducible (apply Blk.alloc) | with_reducible (apply Blk.drew)))
    replace ht : Blk w14 pt 25 #[.int .u64 (bx : Int), .slice Ax lx.length cx] := ht
    replace hBr := Below.via (w := w9) (by have hs_ := hBr.size; repeat (first | with_reducible exact hBr | with_reducible (refine Below.setCell ?_ (by simp <;> omega) _) | with_reducible (refine Below.alloc ?_ (by first | exact hs_ | (simp <;> omega)) _) | with_reducible (refine Below.drew ?_))) bB
    replace hB := Below.via (w := w) (by have hs_ := hB.size; repeat (first | with_reducible exact hB | with_reducible (refine Below.setCell ?_ (by simp <;> omega) _) | with_reducible (refine Below.alloc ?_ (by first | exact hs_ | (simp <;> omega)) _) | with_reducible (refine Below.drew ?_))) bB
    clear z48 z49 z50 z51 z52 z53 z54 z55 z56 z57
    clear bB
    obtain ⟨g14, rfl, _⟩ := own_head o14 (by omega)
    have R14 := own_rd o14
    obtain ⟨ad4, c4, hA4, _, hc4, _⟩ := R14.byte (k := 0) (by omega)
    have q14 := reads_cell R14 (by omega) 0 (v := .int .u8 (c4.toNat : Int)) (by rw [List.getElem?_map, hc4]; rfl)
    obtain ⟨adx, cN, hAx, hadx, hcN, hcell⟩ := (HRX.out _ hBr).byte (k := N) hNl
    have hcc : c4 = cN := by
      rw [← HT4.out, List.getElem?_take, if_pos (by omega), List.getElem?_drop, Nat.add_zero, hcN] at hc4
      exact (Option.some.inj hc4).symm
    subst hcc
    clear hc4 hcN hA4 R14 o14
    subst hAx
    have q14q : ∀ q_, (w14.drewN q_).cell? ⟨g14, 0, none⟩ = some (.int .u8 (c4.toNat : Int)) := fun q_ => q14
    have qxq : ∀ q_, (w14.drewN q_).cell? (adx.add N) = some (.int .u8 (c4.toNat : Int)) := fun q_ => hcell
    have z58 : w14.cell? ⟨w.heap.size, 0, none⟩ = some (.int .u64 (b : Int)) := (hk.cell 0).trans rfl
    have z59 := hk.frozen 0
    have z60 : w14.cell? ⟨w.heap.size, 1, none⟩ = some (.slice A0 l0.length c0) := (hk.cell 1).trans rfl
    have z61 := hk.frozen 1
    have z62 : w14.cell? ⟨pt, 0, none⟩ = some (.int .u64 (bx : Int)) := (ht.cell 0).trans rfl
    have z63 := ht.frozen 0
    have z64 : w14.cell? ⟨pt, 1, none⟩ = some (.slice (some adx) lx.length cx) := (ht.cell 1).trans rfl
    have z65 := ht.frozen 1
    have z66 := hk.lt
    have z67 := ht.lt
    have z68 : ∀ q_, (w14.drewN q_).cell? ⟨pt, 0, none⟩ = some (.int .u64 (bx : Int)) := fun q_ => (((ht : Blk w14 _ _ _).drewN q_).cell 0).trans rfl
    have z69 : ∀ q_, (w14.drewN q_).cell? ⟨pt, 1, none⟩ = some (.slice (some adx) lx.length cx) := fun q_ => (((ht : Blk w14 _ _ _).drewN q_).cell 1).trans rfl
    go_wp2_with fail
    go_quiet (fail)
    go_wp2_with fail
    go_ret
    exact ⟨rfl, below_drewN' hB nq⟩

end Go.Proofs.Ytponceakelimeaa
