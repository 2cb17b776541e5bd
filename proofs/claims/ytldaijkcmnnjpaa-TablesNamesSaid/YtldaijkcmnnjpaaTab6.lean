/- Contracts and laws of a chapter that its statement of names leans on. Each states its conditions. -/
import Derived.Test.YtldaijkcmnnjpaaTab7
namespace Go.Proofs.Ytldaijkcmnnjpaa
open Go.RowKit Wire
set_option linter.unusedVariables false
set_option maxRecDepth 100000 in
set_option maxHeartbeats 1600000 in
theorem at1_any (A : Option Addr) (n c : Nat) (L : List (Int × Nat)) (i : Int) (q p3 p5 : Nat) (f : Int) (v : Nat) (w : World) (hr : RdN w A n L) (hz : L[q]? = some (f, v)) (h3 : Blk w p3 58 #[.slice A n c]) (h5 : Blk w p5 3 #[.int .i64 i]) :
    Calls Try.prog 66 #[.int .i64 (q : Int), .pointer (some ⟨p3, 0, none⟩), .pointer (some ⟨p5, 0, none⟩)] w fun e w' => e = .returned (.bool (decide (i < f))) ∧ ∃ m, w' = w.drewN m := by
  have hq : q < n := by have := (List.getElem?_eq_some_iff.1 hz).1; rw [hr.len] at this; exact this
  obtain ⟨ad, f2, v2, hA, hab, hz2, c0, c1, _, _⟩ := hr.at_ hq
  rw [hz] at hz2
  injection hz2 with hz2
  injection hz2 with h1 h2
  subst h1 h2 hA
  have e3 : w.cell? ⟨p3, 0, none⟩ = some (.slice (some ad) n c) := (h3.cell 0).trans rfl
  have e5 : w.cell? ⟨p5, 0, none⟩ = some (.int .i64 i) := (h5.cell 0).trans rfl
  have i0 : (0 : Int) ≤ (q : Int) := by omega
  have i1 : (q : Int) < (n : Int) := by omega
  go_enter Try.func66, Try.ntmps66
  go_wp2_with fail
  go_quiet (fail)
  go_wp2_with fail
  go_ret
  exact ⟨rfl, _, rfl⟩
theorem half_lt {a b : Nat} (h : a < b) : a ≤ (a + b) / 2 ∧ (a + b) / 2 < b := by omega
set_option maxRecDepth 100000 in
set_option maxHeartbeats 3200000 in
theorem search_any (A : Option Addr) (n c : Nat) (L : List (Int × Nat)) (k i : Int) (p3 p5 : Nat) (w : World) (hr : RdN w A n L) (hn : n ≤ 1000000) (hfn : fnB L k = true) (h3 : Blk w p3 58 #[.slice A n c]) (h5 : Blk w p5 3 #[.int .i64 i]) :
    Calls Try.prog 65 #[.int .i64 (n : Int), .func (.func 66) #[] #[.pointer (some ⟨p3, 0, none⟩), .pointer (some ⟨p5, 0, none⟩)]] w fun e w' => ∃ a : Nat, e = .returned (.int .i64 (a : Int)) ∧ (a ≤ n ∧ (∀ q p, q < a → L[q]? = some p → p.1 ≤ i) ∧ (∀ q p, a ≤ q → L[q]? = some p → i < p.1)) ∧ ∃ m, w' = w.drewN m := by
  have hmono : ∀ (q r : Nat) (p s : Int × Nat), q < r → L[q]? = some p → L[r]? = some s → p.1 < s.1 := fun q r p s hqr hp hs => by
    have h1 := (fn_at hfn hp).2
    exact frB_gt h1 s (List.mem_of_getElem? (show (L.drop (q + 1))[r - (q + 1)]? = some s by rw [List.getElem?_drop, show q + 1 + (r - (q + 1)) = r by omega]; exact hs))
  have HL := Lib.hid hr.len
  have HM := Lib.hid hmono
  have HA := Lib.hid (fun (q : Nat) (f : Int) (v : Nat) (m : Nat) (hz : L[q]? = some (f, v)) => at1_any A n c L i q p3 p5 f v (w.drewN m) (hr.mv (below_drewN (Below.refl _ _) m)) hz (h3.drewN m) (h5.drewN m))
  clear hmono hfn
  go_enter Try.func65, Try.ntmps65
  go_wp2_with fail
  go_loopw [5, 6] (fun x y wr => ∃ a b : Nat, x = .int .i64 (a : Int) ∧ y = .int .i64 (b : Int) ∧ (a ≤ b ∧ b ≤ n) ∧ (∀ q p, q < a → L[q]? = some p → p.1 ≤ i) ∧ (∀ q p, b ≤ q → L[q]? = some p → i < p.1) ∧ ∃ m, wr = w.drewN m) (fun x y _ => (intOf y).toNat - (intOf x).toNat)
  case atStart => exact ⟨0, n, rfl, rfl, ⟨by omega, by omega⟩, fun q p h => absurd h (by omega), fun q p h hp => absurd (List.getElem?_eq_some_iff.1 hp).1 (by rw [HL.out]; omega), 0, rfl⟩
  case round =>
    obtain ⟨a, b, rfl, rfl, ⟨hab, hbn⟩, hlo, hhi, m, rfl⟩ := hrel
    have LO := Lib.hid hlo
    have HI := Lib.hid hhi
    clear hlo hhi
    by_cases hlt : a < b
    · have hw : IntKind.u64.wrap ((a : Int) + (b : Int)) = ((a + b : Nat) : Int) := by rw [IntKind.wrap_u64]; omega
      obtain ⟨hh1, hh2⟩ := half_lt hlt
      have hq : (a + b) / 2 < L.length := by rw [HL.out]; omega
      obtain ⟨f, v, hz⟩ : ∃ f v, L[(a + b) / 2]? = some (f, v) := ⟨_, _, List.getElem?_eq_getElem hq⟩
      have HZ := Lib.hid hz
      clear hz hq
      go_wp2_with fail
      rw [show ((a : Int) + (b : Int)) / 2 = (((a + b) / 2 : Nat) : Int) from by omega]
      generalize (a + b) / 2 = h at *
      refine (HA.out _ f v m HZ.out).mono ?_
      rintro e w2 ⟨rfl, m2, rfl⟩
      by_cases hfi : i < f
      · have d1 : decide (i < f) = true := by simpa using hfi
        have HN := Lib.hid (show ∀ (q : Nat) (p : Int × Nat), h ≤ q → L[q]? = some p → i < p.1 from fun q p hq hp => by
          rcases Nat.lt_or_ge h q with h1 | h1
          · have := HM.out h q _ p h1 HZ.out hp
            simp at this; omega
          · obtain rfl : q = h := by omega
            rw [HZ.out] at hp; injection hp with hp; subst hp; exact hfi)
        clear hfi
        go_wp2_with fail
        go_roundw
        case rel => exact ⟨a, h, rfl, rfl, ⟨by omega, by omega⟩, LO.out, HN.out, m + m2, by simp⟩
        case measure => simp [intOf]; omega
      · have d1 : decide (i < f) = false := by simpa using hfi
        have HN := Lib.hid (show ∀ (q : Nat) (p : Int × Nat), q < h + 1 → L[q]? = some p → p.1 ≤ i from fun q p hq hp => by
          rcases Nat.lt_or_ge q h with h1 | h1
          · have := HM.out q h p _ h1 hp HZ.out
            simp at this; omega
          · obtain rfl : q = h := by omega
            rw [HZ.out] at hp; injection hp with hp; subst hp; simp; omega)
        clear hfi
        go_wp2_with fail
        go_roundw
        case rel => exact ⟨h + 1, b, by go_num, rfl, ⟨by omega, by omega⟩, HN.out, HI.out, m + m2, by simp⟩
        case measure => simp [intOf]; omega
    · obtain rfl : a = b := by omega
      go_wp2_with fail
      go_ret
      exact ⟨a, rfl, ⟨hbn, LO.out, HI.out⟩, _, rfl⟩
set_option maxRecDepth 100000 in
set_option maxHeartbeats 3200000 in
theorem at_any (A : Option Addr) (n c : Nat) (L : List (Int × Nat)) (k i : Int) (w : World) (hr : RdN w A n L) (hc : n ≤ c ∧ c ≤ 9223372036854775807) :
    Calls Try.prog 24 #[.slice A n c, .int .i64 k, .int .i64 i] w fun e w' => e = .returned (.tuple #[.int .u64 (atV L k i : Nat), .int .i64 (atE L k i)]) ∧ Below w.heap.size w w' := by
  have hB : Below w.heap.size w ((w.alloc (.cells #[.slice A n c] 58)).alloc (.cells #[.int .i64 i] 3)) := Below.alloc (Below.alloc (Below.refl w.heap.size w) (Nat.le_refl _) (.cells #[.slice A n c] 58)) (by simp) (.cells #[.int .i64 i] 3)
  have h3 := (Blk.new w 58 #[.slice A n c]).alloc (.cells #[.int .i64 i] 3)
  have h5 := Blk.new (w.alloc (.cells #[.slice A n c] 58)) 3 #[.int .i64 i]
  rw [alloc_size] at h5
  have R := hr.mv hB
  have HL := Lib.hid hr.len
  have HK := Lib.hid (fun W (h : RdN W A n L) => check8_any A n c L k W h hc)
  by_cases h : ckT L k = 0
  rotate_left
  · have HE := Lib.hid (show atE L k i = ckT L k from by rw [atE, if_neg h])
    have HV := Lib.hid (show atV L k i = 0 from by rw [atV, HE.out, if_neg h])
    have d1 : (ckT L k != 0) = true := by rw [bne_iff_ne]; exact h
    generalize ckT L k = x at *
    clear h
    go_enter Try.func24, Try.ntmps24
    have z1 : ((w.alloc (.cells #[.slice A n c] 58)).alloc (.cells #[.int .i64 i] 3)).cell? ⟨w.heap.size, 0, none⟩ = some (.slice A n c) := (h3.cell 0).trans rfl
    have z2 : ((w.alloc (.cells #[.slice A n c] 58)).alloc (.cells #[.int .i64 i] 3)).cell? ⟨(w.heap.size + 1), 0, none⟩ = some (.int .i64 i) := (h5.cell 0).trans rfl
    go_wp2_with fail
    clear z1 z2
    refine (HK.out _ R).mono ?_
    rintro e w1 ⟨rfl, b⟩
    replace R := R.mv b
    replace h3 := h3.below b h3.lt
    replace h5 := h5.below b h5.lt
    replace hB := hB.trans (b.mono hB.size)
    clear b
    have z3 : w1.cell? ⟨w.heap.size, 0, none⟩ = some (.slice A n c) := (h3.cell 0).trans rfl
    have z4 : w1.cell? ⟨(w.heap.size + 1), 0, none⟩ = some (.int .i64 i) := (h5.cell 0).trans rfl
    go_wp2_with fail
    go_ret2
    exact ⟨by rw [HV.out, HE.out]; rfl, hB⟩
  have HE := Lib.hid (show atE L k i = if 0 ≤ i ∧ i < k then 0 else 2 from by rw [atE, if_pos h])
  have HF := Lib.hid (ck_zero8 h).2
  have hk := (ck_zero8 h).1
  have hnl : n ≤ 1000 := by have := fn_len HF.out (by omega); rw [HL.out] at this; exact this
  rw [h] at HK
  clear h
  by_cases g : 0 ≤ i ∧ i < k
  rotate_left
  · rw [if_neg g] at HE
    have HV := Lib.hid (show atV L k i = 0 from by rw [atV, HE.out]; rfl)
    go_enter Try.func24, Try.ntmps24
    have z1 : ((w.alloc (.cells #[.slice A n c] 58)).alloc (.cells #[.int .i64 i] 3)).cell? ⟨w.heap.size, 0, none⟩ = some (.slice A n c) := (h3.cell 0).trans rfl
    have z2 : ((w.alloc (.cells #[.slice A n c] 58)).alloc (.cells #[.int .i64 i] 3)).cell? ⟨(w.heap.size + 1), 0, none⟩ = some (.int .i64 i) := (h5.cell 0).trans rfl
    go_wp2_with fail
    clear z1 z2
    refine (HK.out _ R).mono ?_
    rintro e w1 ⟨rfl, b⟩
    replace R := R.mv b
    replace h3 := h3.below b h3.lt
    replace h5 := h5.below b h5.lt
    replace hB := hB.trans (b.mono hB.size)
    clear b
    have z3 : w1.cell? ⟨w.heap.size, 0, none⟩ = some (.slice A n c) := (h3.cell 0).trans rfl
    have z4 : w1.cell? ⟨(w.heap.size + 1), 0, none⟩ = some (.int .i64 i) := (h5.cell 0).trans rfl
    go_wp2_with fail
    all_goals first
      | (go_ret2; exact ⟨by rw [HV.out, HE.out]; rfl, hB⟩)
      | (exfalso; omega)
  rw [if_pos g] at HE
  have HV := Lib.hid (show atV L k i = valA L i from by rw [atV, HE.out]; rfl)
  have d1 : decide (i < 0) = false := by rw [decide_eq_false_iff_not]; omega
  have d2 : decide (k ≤ i) = false := by rw [decide_eq_false_iff_not]; omega
  go_enter Try.func24, Try.ntmps24
  have z1 : ((w.alloc (.cells #[.slice A n c] 58)).alloc (.cells #[.int .i64 i] 3)).cell? ⟨w.heap.size, 0, none⟩ = some (.slice A n c) := (h3.cell 0).trans rfl
  have z2 : ((w.alloc (.cells #[.slice A n c] 58)).alloc (.cells #[.int .i64 i] 3)).cell? ⟨(w.heap.size + 1), 0, none⟩ = some (.int .i64 i) := (h5.cell 0).trans rfl
  go_wp2_with fail
  clear z1 z2
  refine (HK.out _ R).mono ?_
  rintro e w1 ⟨rfl, b⟩
  replace R := R.mv b
  replace h3 := h3.below b h3.lt
  replace h5 := h5.below b h5.lt
  replace hB := hB.trans (b.mono hB.size)
  clear b
  have z3 : w1.cell? ⟨w.heap.size, 0, none⟩ = some (.slice A n c) := (h3.cell 0).trans rfl
  have z4 : w1.cell? ⟨(w.heap.size + 1), 0, none⟩ = some (.int .i64 i) := (h5.cell 0).trans rfl
  go_wp2_with fail
  refine (search_any A n c L k i _ _ _ R (by omega) HF.out h3 h5).mono ?_
  rintro e w2 ⟨a, rfl, ⟨ha, hlo, hhi⟩, m, rfl⟩
  have HLO := Lib.hid hlo
  have HHI := Lib.hid hhi
  clear hlo hhi
  obtain ⟨b, rfl⟩ : ∃ b, a = b + 1 := by
    rcases a with _ | b
    · obtain ⟨v, r, hv⟩ := fn_first HF.out
      have := HHI.out 0 (0, v) (Nat.le_refl _) (by rw [hv]; rfl)
      simp at this; omega
    · exact ⟨b, rfl⟩
  obtain ⟨ad, f, z, hA, hab, hz, c0, c1, _, _⟩ := R.at_ (k := b) (by omega)
  subst hA
  have HV2 := Lib.hid (show valA L i = z from val_at HF.out hz (by have := HLO.out b _ (by omega) hz; simpa using this) (fun q hq => HHI.out (b + 1) q (Nat.le_refl _) hq))
  have l0 : (0 : Int) ≤ (b : Int) := by omega
  have l1 : (b : Int) < (n : Int) := by omega
  go_wp2_with fail
  go_ret2
  exact ⟨by rw [HV.out, HE.out, HV2.out]; rfl, below_drewN hB _⟩

end Go.Proofs.Ytldaijkcmnnjpaa
