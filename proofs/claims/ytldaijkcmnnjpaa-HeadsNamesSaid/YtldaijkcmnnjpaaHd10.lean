/- Contracts and laws of a chapter that its statement of names leans on. Each states its conditions. -/
import Derived.Test.YtldaijkcmnnjpaaHd8
namespace Go.Proofs.Ytldaijkcmnnjpaa
open Go.RowKit Wire
set_option linter.unusedVariables false
def vU (x : Nat) : Value := .int .u64 (x : Int)
/-- A slice of uint64 that reads as a list. -/
def RdU (w : World) (A : Option Addr) (n : Nat) (l : List Nat) : Prop := Reads w w.heap.size 1 A n (l.map vU) ∧ ∀ x ∈ l, x < 18446744073709551616
theorem RdU.mv {w w' : World} {A : Option Addr} {n : Nat} {l : List Nat} (h : RdU w A n l) (hb : Below w.heap.size w w') : RdU w' A n l := ⟨h.1.mv hb, h.2⟩
theorem RdU.len {w : World} {A : Option Addr} {n : Nat} {l : List Nat} (h : RdU w A n l) : l.length = n := by simpa using h.1.1
theorem RdU.at_ {w : World} {A : Option Addr} {n : Nat} {l : List Nat} (h : RdU w A n l) {k : Nat} (hk : k < n) :
    ∃ ad z, A = some ad ∧ ad.block < w.heap.size ∧ l[k]? = some z ∧ w.cell? (ad.add k) = some (.int .u64 (z : Int)) ∧ z < 18446744073709551616 := by
  have hl : k < l.length := by rw [h.len]; exact hk
  obtain ⟨ad, u, rfl, hb, hx, hc⟩ := h.1.at_ hk
  rw [List.getElem?_map, List.getElem?_eq_getElem hl] at hx
  simp at hx
  exact ⟨ad, l[k], rfl, hb, List.getElem?_eq_getElem hl, by rw [hc, ← hx]; rfl, h.2 _ (List.getElem_mem hl)⟩
/-- A slice of slices of uint64 that reads as a list of lists. -/
def RdC (w : World) (A : Option Addr) (n : Nat) (LL : List (List Nat)) : Prop :=
  LL.length = n ∧ ∃ vs : List Value, Reads w w.heap.size 1 A n vs ∧ ∀ (k : Nat) (li : List Nat), LL[k]? = some li → ∃ Ai ci, vs[k]? = some (.slice Ai li.length ci) ∧ (li.length ≤ ci ∧ ci ≤ 9223372036854775807) ∧ RdU w Ai li.length li
theorem RdC.mv {w w' : World} {A : Option Addr} {n : Nat} {LL : List (List Nat)} (h : RdC w A n LL) (hb : Below w.heap.size w w') : RdC w' A n LL := by
  obtain ⟨h1, vs, h2, h3⟩ := h
  refine ⟨h1, vs, h2.mv hb, fun k li hk => ?_⟩
  obtain ⟨Ai, ci, hv, hc, hr⟩ := h3 k li hk
  exact ⟨Ai, ci, hv, hc, hr.mv hb⟩
theorem RdC.at_ {w : World} {A : Option Addr} {n : Nat} {LL : List (List Nat)} (h : RdC w A n LL) {k : Nat} (hk : k < n) :
    ∃ ad Ai ci li, A = some ad ∧ ad.block < w.heap.size ∧ LL[k]? = some li ∧ w.cell? (ad.add k) = some (.slice Ai li.length ci) ∧ (li.length ≤ ci ∧ ci ≤ 9223372036854775807) ∧ RdU w Ai li.length li := by
  obtain ⟨h1, vs, h2, h3⟩ := h
  obtain ⟨ad, u, rfl, hb, hx, hc⟩ := h2.at_ hk
  have hl : k < LL.length := by omega
  obtain ⟨Ai, ci, hv, hci, hr⟩ := h3 k LL[k] (List.getElem?_eq_getElem hl)
  rw [hx] at hv
  injection hv with hv
  subst hv
  exact ⟨ad, Ai, ci, LL[k], rfl, hb, List.getElem?_eq_getElem hl, hc, hci, hr⟩
/-- Whether a number is an address of a chain. -/
def atB (a : Nat) : Bool := decide (65536 ≤ a) && (decide (a < 81920) && decide (a % 8 = 0))
def chB (l : List Nat) : Bool := decide (l.length ≤ 410) && l.all atB
def csB (LL : List (List Nat)) : Bool := LL.all chB && (decide (0 < LL.length) && decide (LL.length ≤ 16))
set_option maxRecDepth 100000 in
set_option maxHeartbeats 1600000 in
theorem notAt_any (z : Nat) (w : World) (hz : z < 18446744073709551616) :
    Calls Try.prog 111 #[.int .u64 (z : Int)] w fun e w' => e = .returned (.bool (!atB z)) ∧ w = w' := by
  go_enter Try.func111, Try.ntmps111
  by_cases h1 : z < 65536
  · have d1 : decide ((z : Int) < 65536) = true := by simp; omega
    have d2 : (z : Int) < 65536 := by omega
    have HE := Lib.hid (show atB z = false from by simp [atB]; omega)
    go_wp2_with fail
    go_ret
    exact ⟨by rw [HE.out]; rfl, rfl⟩
  have d1 : decide ((z : Int) < 65536) = false := by simp; omega
  by_cases h2 : z < 81920
  rotate_left
  · have d2 : decide ((z : Int) ≥ 81920) = true := by simp; omega
    have d3 : (81920 : Int) ≤ z := by omega
    have HE := Lib.hid (show atB z = false from by simp [atB]; omega)
    go_wp2_with fail
    go_ret
    exact ⟨by rw [HE.out]; rfl, rfl⟩
  have d2 : decide ((z : Int) ≥ 81920) = false := by simp; omega
  have d3 : ¬ (81920 : Int) ≤ z := by omega
  by_cases h3 : z % 8 = 0
  · have d4 : ((z : Int) % 8 != 0) = false := by simp; omega
    have HE := Lib.hid (show atB z = true from by simp [atB]; omega)
    clear h3
    go_wp2_with fail
    go_ret
    exact ⟨by rw [HE.out]; rfl, rfl⟩
  · have d4 : ((z : Int) % 8 != 0) = true := by rw [bne_iff_ne]; omega
    have HE := Lib.hid (show atB z = false from by simp [atB]; omega)
    clear h3
    go_wp2_with fail
    go_ret
    exact ⟨by rw [HE.out]; rfl, rfl⟩
set_option maxRecDepth 100000 in
set_option maxHeartbeats 1600000 in
theorem indexAt_any (A : Option Addr) (n c : Nat) (l : List Nat) (w : World) (hr : RdU w A n l) (hn : n ≤ 1000000) :
    Calls Try.prog 113 #[.slice A n c, .func (.func 111) #[] #[]] w fun e w' => ∃ r : Int, e = .returned (.int .i64 r) ∧ (-1 ≤ r ∧ r ≤ 1000000) ∧ (decide (0 ≤ r) = !l.all atB) ∧ w = w' := by
  have HL := Lib.hid hr.len
  go_enter Try.func113, Try.ntmps113
  go_wp2_with fail
  go_loopw [8] (fun i wr => ∃ j : Nat, j ≤ n ∧ i = .int .i64 (j : Int) ∧ (l.take j).all atB = true ∧ w = wr) (fun i _ => n - (intOf i).toNat)
  case atStart => exact ⟨0, by omega, rfl, by simp, rfl⟩
  case round =>
    obtain ⟨j, hj, rfl, ht, rfl⟩ := hrel
    by_cases hlt : j < n
    · obtain ⟨ad, z, hA, hab, hz, c0, hz64⟩ := hr.at_ hlt
      have HT := Lib.hid ht
      have HZ := Lib.hid hz
      clear ht hz
      subst hA
      go_wp2_with fail
      refine (notAt_any z _ hz64).mono ?_
      rintro e w3 ⟨rfl, rfl⟩
      cases hf : atB z
      · have HE := Lib.hid (show l.all atB = false from by
          rw [← Bool.not_eq_true, List.all_eq_true]
          intro h
          have := h z (List.mem_of_getElem? HZ.out)
          rw [hf] at this; cases this)
        clear hf
        go_wp2_with fail
        go_ret
        exact ⟨(j : Int), rfl, by omega, by rw [HE.out]; simp, rfl⟩
      · have HN := Lib.hid (show (l.take (j + 1)).all atB = true from by
          rw [List.take_add_one, HZ.out, List.all_append, HT.out]; simp [hf])
        clear hf
        go_wp2_with fail
        go_roundw
        case rel => exact ⟨j + 1, by omega, by go_num, HN.out, trivial⟩
        case measure => simp [intOf]; omega
    · have HE := Lib.hid (show l.all atB = true from by rw [List.take_of_length_le (by rw [HL.out]; omega)] at ht; exact ht)
      clear ht
      go_wp2_with fail
      go_ret
      exact ⟨-1, rfl, by omega, by rw [HE.out]; simp, rfl⟩
set_option maxRecDepth 100000 in
set_option maxHeartbeats 1600000 in
theorem containsAt_any (A : Option Addr) (n c : Nat) (l : List Nat) (w : World) (hr : RdU w A n l) (hn : n ≤ 1000000) :
    Calls Try.prog 110 #[.slice A n c, .func (.func 111) #[] #[]] w fun e w' => e = .returned (.bool (!l.all atB)) ∧ w = w' := by
  go_enter Try.func110, Try.ntmps110
  go_wp2_with fail
  refine (indexAt_any A n c l _ hr hn).mono ?_
  rintro e wq ⟨r, rfl, hrr, hd, rfl⟩
  have hd2 : decide (r ≥ 0) = !l.all atB := hd
  go_wp2_with fail
  go_ret
  exact ⟨by rw [← hd]; rfl, rfl⟩
set_option maxRecDepth 100000 in
set_option maxHeartbeats 3200000 in
theorem areChains_any (A : Option Addr) (n c : Nat) (LL : List (List Nat)) (w : World) (hr : RdC w A n LL) (hn : n ≤ 1000000) :
    Calls Try.prog 92 #[.slice A n c] w fun e w' => e = .returned (.bool (csB LL)) ∧ w = w' := by
  have HL := Lib.hid hr.1
  go_enter Try.func92, Try.ntmps92
  go_wp2_with fail
  go_loopw [7] (fun i wr => ∃ j : Nat, j ≤ n ∧ i = .int .i64 (j : Int) ∧ (LL.take j).all chB = true ∧ w = wr) (fun i _ => n - (intOf i).toNat)
  case atStart => exact ⟨0, by omega, rfl, by simp, rfl⟩
  case round =>
    obtain ⟨j, hj, rfl, ht, rfl⟩ := hrel
    by_cases hlt : j < n
    · obtain ⟨ad, Ai, ci, li, hA, hab, hz, c0, hci, hri⟩ := hr.at_ hlt
      have HT := Lib.hid ht
      have HZ := Lib.hid hz
      clear ht hz
      subst hA
      by_cases h4 : 410 < li.length
      · have hf : chB li = false := by simp [chB]; omega
        have d1 : decide ((li.length : Int) > 410) = true := by simp; omega
        have d2 : (410 : Int) < li.length := by omega
        have HE := Lib.hid (show csB LL = false from by
          have h2 : LL.all chB = false := by
            rw [← Bool.not_eq_true, List.all_eq_true]
            intro h
            have := h li (List.mem_of_getElem? HZ.out)
            rw [hf] at this; cases this
          simp [csB, h2])
        clear hf
        go_wp2_with fail
        go_ret
        exact ⟨by rw [HE.out]; rfl, rfl⟩
      have d1 : decide ((li.length : Int) > 410) = false := by simp; omega
      have d2 : ¬ (410 : Int) < li.length := by omega
      go_wp2_with fail
      refine (containsAt_any Ai li.length ci li _ hri (by omega)).mono ?_
      rintro e wq ⟨rfl, rfl⟩
      cases hg : li.all atB
      · have hf : chB li = false := by simp [chB, hg]
        have HE := Lib.hid (show csB LL = false from by
          have h2 : LL.all chB = false := by
            rw [← Bool.not_eq_true, List.all_eq_true]
            intro h
            have := h li (List.mem_of_getElem? HZ.out)
            rw [hf] at this; cases this
          simp [csB, h2])
        clear hf
        clear hg
        go_wp2_with fail
        go_ret
        exact ⟨by rw [HE.out]; rfl, rfl⟩
      · have hf : chB li = true := by simp [chB, hg]; omega
        have HN := Lib.hid (show (LL.take (j + 1)).all chB = true from by
          rw [List.take_add_one, HZ.out, List.all_append, HT.out]; simp [hf])
        clear hf
        clear hg
        go_wp2_with fail
        go_roundw
        case rel => exact ⟨j + 1, by omega, by go_num, HN.out, trivial⟩
        case measure => simp [intOf]; omega
    · have HJ := Lib.hid (show LL.all chB = true from by rw [List.take_of_length_le (by rw [HL.out]; omega)] at ht; exact ht)
      clear ht
      by_cases h0 : 0 < n
      · have d1 : decide ((n : Int) > 0) = true := by simp; omega
        by_cases h2 : n ≤ 16
        · have d2 : decide ((n : Int) ≤ 16) = true := by simp; omega
          have HE := Lib.hid (show csB LL = true from by simp only [csB, HJ.out, HL.out]; simp; omega)
          go_wp2_with fail
          go_ret
          exact ⟨by rw [HE.out]; rfl, rfl⟩
        · have d2 : decide ((n : Int) ≤ 16) = false := by simp; omega
          have HE := Lib.hid (show csB LL = false from by simp [csB, HL.out]; omega)
          go_wp2_with fail
          go_ret
          exact ⟨by rw [HE.out]; rfl, rfl⟩
      · have d1 : decide ((n : Int) > 0) = false := by simp; omega
        have HE := Lib.hid (show csB LL = false from by simp [csB, HL.out]; omega)
        go_wp2_with fail
        go_ret
        exact ⟨by rw [HE.out]; rfl, rfl⟩

end Go.Proofs.Ytldaijkcmnnjpaa
