/- Contracts and laws of a chapter that its statement of names leans on. Each states its conditions. -/
import Derived.Test.YtldaijkcmnnjpaaTab1
namespace Go.Proofs.Ytldaijkcmnnjpaa
open Go.RowKit Wire
set_option linter.unusedVariables false
set_option maxRecDepth 100000 in
set_option maxHeartbeats 1600000 in
theorem check8_any (A : Option Addr) (n c : Nat) (L : List (Int × Nat)) (k : Int) (w : World) (hr : RdN w A n L) (hc : n ≤ c ∧ c ≤ 9223372036854775807) :
    Calls Try.prog 27 #[.slice A n c, .int .i64 k] w fun e w' => e = .returned (.int .i64 (ckT L k)) ∧ Below w.heap.size w w' := by
  by_cases h : 1 ≤ k ∧ k ≤ 200
  rotate_left
  · have HE := Lib.hid (show ckT L k = 2 from by rw [ckT, if_neg h])
    have HC := Lib.hid (show cnE k = 2 from by rw [cnE, if_neg h])
    go_enter Try.func27, Try.ntmps27
    go_wp2_with fail
    refine (counted_any _ _).mono ?_
    rintro e w1 ⟨rfl, rfl⟩
    rw [HC.out]
    go_wp2_with fail
    go_ret
    exact ⟨by rw [HE.out]; rfl, Below.refl _ _⟩
  have HC := Lib.hid (show cnE k = 0 from by rw [cnE, if_pos h])
  have HE := Lib.hid (show ckT L k = if fnB L k then 0 else 8 from by rw [ckT, if_pos h])
  clear h
  go_enter Try.func27, Try.ntmps27
  go_wp2_with fail
  refine (counted_any _ _).mono ?_
  rintro e w1 ⟨rfl, rfl⟩
  rw [HC.out]
  go_wp2_with fail
  refine (t_fine_any A n c L k _ hr hc).mono ?_
  rintro e w1 ⟨rfl, hb⟩
  cases hf : fnB L k
  · rw [hf] at HE
    go_wp2_with fail
    go_ret
    exact ⟨by rw [HE.out]; rfl, hb⟩
  · rw [hf] at HE
    go_wp2_with fail
    go_ret
    exact ⟨by rw [HE.out]; rfl, hb⟩
def vU (x : Nat) : Value := .int .u64 (x : Int)
/-- A slice of uint64 that reads as a list. -/
def RdU (w : World) (A : Option Addr) (n : Nat) (l : List Nat) : Prop := Reads w w.heap.size 1 A n (l.map vU) ∧ ∀ x ∈ l, x < 18446744073709551616
theorem RdU.mv {w w' : World} {A : Option Addr} {n : Nat} {l : List Nat} (h : RdU w A n l) (hb : Below w.heap.size w w') : RdU w' A n l := ⟨h.1.mv hb, h.2⟩
theorem RdU.len {w : World} {A : Option Addr} {n : Nat} {l : List Nat} (h : RdU w A n l) : l.length = n := by simpa using h.1.1
theorem RdU.at_ {w : World} {A : Option Addr} {n : Nat} {l : List Nat} (h : RdU w A n l) {k : Nat} (hk : k < n) :
    ∃ ad z, A = some ad ∧ ad.block < w.heap.size ∧ l[k]? = some z ∧ w.cell? (ad.add k) = some (.int .u64 (z : Int)) ∧ z < 18446744073709551616 := by
  have hl : k < l.length := by rw [h.len]; exact hk
  obtain ⟨ad, u, rfl, hb, hx, hc⟩ := h.1.at_ hk
  rw [List.getElem?_map, List.getElem?_eq_getElem hl] at hx
  simp at hx
  exact ⟨ad, l[k], rfl, hb, List.getElem?_eq_getElem hl, by rw [hc, ← hx]; rfl, h.2 _ (List.getElem_mem hl)⟩
theorem upto_eq {α : Type} {l m : List α} {j : Nat} {a b : α} (h1 : l[j]? = some a) (h2 : m[j]? = some b) (h : l.take j = m.take j) (e : a = b) : l.take (j + 1) = m.take (j + 1) := by
  rw [List.take_add_one, List.take_add_one, h1, h2, h, e]
theorem at_ne {α : Type} {l m : List α} {j : Nat} {a b : α} (h1 : l[j]? = some a) (h2 : m[j]? = some b) (e : a ≠ b) : l ≠ m := by
  rintro rfl
  rw [h1] at h2
  injection h2 with h2
  exact e h2
set_option maxRecDepth 100000 in
set_option maxHeartbeats 3200000 in
theorem same8_any (A : Option Addr) (n c : Nat) (l : List (Int × Nat)) (A2 : Option Addr) (n2 c2 : Nat) (l2 : List (Int × Nat)) (w : World) (hr : RdN w A n l) (hs : RdN w A2 n2 l2) (hn : n ≤ 9223372036854775807) :
    Calls Try.prog 71 #[.slice A n c, .slice A2 n2 c2] w fun e w' => e = .returned (.bool (decide (l = l2))) ∧ Below w.heap.size w w' := by
  have HL := Lib.hid hr.len
  have HM := Lib.hid hs.len
  by_cases hnm : n = n2
  rotate_left
  · have HD := Lib.hid (show decide (l = l2) = false from by rw [decide_eq_false_iff_not]; rintro rfl; exact hnm (HL.out.symm.trans HM.out))
    have dn : ((n : Int) != (n2 : Int)) = true := by rw [bne_iff_ne]; omega
    go_enter Try.func71, Try.ntmps71
    go_wp2_with fail
    go_ret
    exact ⟨by rw [HD.out]; rfl, Below.refl _ _⟩
  subst hnm
  go_enter Try.func71, Try.ntmps71
  go_wp2_with fail
  go_loopw [5] (fun i wr => ∃ j : Nat, j ≤ n ∧ i = .int .i64 (j : Int) ∧ l.take j = l2.take j ∧ Below w.heap.size w wr) (fun i _ => n - (intOf i).toNat)
  case atStart => exact ⟨0, by omega, rfl, by simp, Below.refl _ _⟩
  case round =>
    obtain ⟨j, hj, rfl, ht, hB⟩ := hrel
    have HT := Lib.hid ht
    clear ht
    by_cases hlt : j < n
    · obtain ⟨ad, f, z, hA, _, hz, c0, c1, _, _⟩ := (hr.mv hB).at_ hlt
      obtain ⟨ad2, g, y, hA2, _, hy, d0, d1, _, _⟩ := (hs.mv hB).at_ hlt
      have HZ := Lib.hid (And.intro hz hy)
      subst hA hA2
      clear hz hy
      by_cases hne : f = g
      rotate_left
      · have dz : (f == g) = false := by rw [beq_eq_false_iff_ne]; omega
        have HE := Lib.hid (show decide (l = l2) = false from by
          rw [decide_eq_false_iff_not]
          exact at_ne HZ.out.1 HZ.out.2 (fun e => hne (by simpa using congrArg Prod.fst e)))
        clear hne
        go_wp2_with fail
        go_quiet (fail)
        go_wp2_with fail
        go_ret
        exact ⟨by rw [HE.out]; rfl, below_drewN hB _⟩
      subst hne
      by_cases hne : z = y
      rotate_left
      · have dz : ((z : Int) == (y : Int)) = false := by rw [beq_eq_false_iff_ne]; omega
        have HE := Lib.hid (show decide (l = l2) = false from by
          rw [decide_eq_false_iff_not]
          exact at_ne HZ.out.1 HZ.out.2 (fun e => hne (by simpa using congrArg Prod.snd e)))
        clear hne
        go_wp2_with fail
        go_quiet (fail)
        go_wp2_with fail
        go_ret
        exact ⟨by rw [HE.out]; rfl, below_drewN hB _⟩
      subst hne
      have HN := Lib.hid (upto_eq HZ.out.1 HZ.out.2 HT.out rfl)
      go_wp2_with fail
      go_quiet (fail)
      go_wp2_with fail
      go_roundw
      case rel => exact ⟨j + 1, by omega, by go_num, HN.out, below_drewN hB _⟩
      case measure => simp [intOf]; omega
    · have HD := Lib.hid (show decide (l = l2) = true from by
        rw [decide_eq_true_eq, ← List.take_of_length_le (l := l) (i := j) (by rw [HL.out]; omega), HT.out, List.take_of_length_le (by rw [HM.out]; omega)])
      clear HT
      go_wp2_with fail
      go_ret
      exact ⟨by rw [HD.out]; rfl, hB⟩

end Go.Proofs.Ytldaijkcmnnjpaa
