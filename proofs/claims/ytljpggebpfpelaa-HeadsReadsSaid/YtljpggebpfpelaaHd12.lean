/- SameHeads and Great; a list of goroutines copied. Each states its conditions. -/
import Derived.Test.YtljpggebpfpelaaHd11
import Derived.BigQuiet
namespace Go.Proofs.Ytljpggebpfpelaa
open Go.RowKit Wire
set_option linter.unusedVariables false

theorem upto_eq {α : Type} {l m : List α} {j : Nat} {a b : α} (h1 : l[j]? = some a) (h2 : m[j]? = some b) (h : l.take j = m.take j) (e : a = b) : l.take (j + 1) = m.take (j + 1) := by
  rw [List.take_add_one, List.take_add_one, h1, h2, h, e]
theorem at_ne {α : Type} {l m : List α} {j : Nat} {a b : α} (h1 : l[j]? = some a) (h2 : m[j]? = some b) (e : a ≠ b) : l ≠ m := by
  rintro rfl
  rw [h1] at h2
  injection h2 with h2
  exact e h2
theorem below_drewN {B : Nat} {w w' : World} (h : Below B w w') (k : Nat) : Below B w (w'.drewN k) := ⟨h.os, h.tape, h.output, h.size, h.block⟩
theorem slRT : IsSl Try.prog 24 53 (.agg #[.int .u8 0, .int .u64 0, .int .u64 0, .int .u64 0, .int .u64 0, .int .i64 0]) 6 48 := ⟨Try.underlying24, by kernel_rfl, rfl, by omega, by omega⟩
theorem rtC_one (L : List Rtn) : ∀ u ∈ (L.map rtC).flatten, u.oneCell' = true := by
  intro u hu
  obtain ⟨l, hl, hu⟩ := List.mem_flatten.1 hu
  obtain ⟨x, _, rfl⟩ := List.mem_map.1 hl
  simp [rtC] at hu
  rcases hu with rfl | rfl | rfl | rfl | rfl | rfl <;> rfl
theorem own_rdT {w : World} {base : Nat} {e : TypeId} {A : Option Addr} {n c : Nat} {L : List Rtn} (h : w.ownsRow base e 6 (.slice A n c) n (L.map rtC).flatten) (hl : L.length = n) (hf : ∀ x ∈ L, rtOk x) : RdT w A n L := ⟨hl, own_reads h, hf⟩

set_option maxRecDepth 100000 in
set_option maxHeartbeats 6400000 in
theorem sameHeads_any (A : Option Addr) (n c : Nat) (L : List Rtn) (A2 : Option Addr) (n2 c2 : Nat) (L2 : List Rtn) (w : World) (hr : RdT w A n L) (hs : RdT w A2 n2 L2) (hn : n ≤ 1000000) :
    Calls Try.prog 15 #[.slice A n c, .slice A2 n2 c2] w fun e w' => e = .returned (.bool (decide (L = L2))) ∧ Below w.heap.size w w' := by
  have HL := Lib.hid (And.intro hr.1 hs.1)
  go_enter Try.func15, Try.ntmps15
  by_cases hne : n = n2
  rotate_left
  · have d0 : ((n : Int) != (n2 : Int)) = true := by rw [bne_iff_ne]; omega
    have HE := Lib.hid (show decide (L = L2) = false from by
      rw [decide_eq_false_iff_not]
      intro e
      have h := congrArg List.length e
      rw [HL.out.1, HL.out.2] at h
      exact hne h)
    clear hne
    go_wp2_with fail
    go_ret
    exact ⟨by rw [HE.out]; rfl, Below.refl _ _⟩
  subst hne
  go_wp2_with fail
  go_loopw [5] (fun i wr => ∃ j : Nat, j ≤ n ∧ i = .int .i64 (j : Int) ∧ L.take j = L2.take j ∧ Below w.heap.size w wr) (fun i _ => n - (intOf i).toNat)
  case atStart => exact ⟨0, by omega, rfl, rfl, Below.refl _ _⟩
  case round =>
    obtain ⟨j, hj, rfl, ht, hB⟩ := hrel
    have HT := Lib.hid ht
    clear ht
    by_cases hlt : j < n
    · obtain ⟨ad, st, co, sp, df, pn, ky, hA, _, hz, _, c0, c1_, c2_, c3, c4, c5⟩ := (hr.mv hB).at_ hlt
      obtain ⟨ad2, st', co', sp', df', pn', ky', hA2, _, hy, _, d0, d1, d2, d3, d4, d5⟩ := (hs.mv hB).at_ hlt
      have HZ := Lib.hid (And.intro hz hy)
      clear hz hy
      subst hA hA2
      by_cases hne : st = st'
      rotate_left
      · have HE := Lib.hid (show decide (L = L2) = false from by
          rw [decide_eq_false_iff_not]
          exact at_ne HZ.out.1 HZ.out.2 (fun e => hne (congrArg (fun (x : Rtn) => (x).1) e)))
        have hne2 : ¬ (st : Int) = (st' : Int) := by omega
        go_wp2_with fail
        go_quiet (fail)
        go_wp2_with fail
        go_ret
        exact ⟨by rw [HE.out]; rfl, below_drewN hB _⟩
      subst hne
      by_cases hne : co = co'
      rotate_left
      · have HE := Lib.hid (show decide (L = L2) = false from by
          rw [decide_eq_false_iff_not]
          exact at_ne HZ.out.1 HZ.out.2 (fun e => hne (congrArg (fun (x : Rtn) => ((x).2).1) e)))
        have hne2 : ¬ (co : Int) = (co' : Int) := by omega
        go_wp2_with fail
        go_quiet (fail)
        go_wp2_with fail
        go_ret
        exact ⟨by rw [HE.out]; rfl, below_drewN hB _⟩
      subst hne
      by_cases hne : sp = sp'
      rotate_left
      · have HE := Lib.hid (show decide (L = L2) = false from by
          rw [decide_eq_false_iff_not]
          exact at_ne HZ.out.1 HZ.out.2 (fun e => hne (congrArg (fun (x : Rtn) => (((x).2).2).1) e)))
        have hne2 : ¬ (sp : Int) = (sp' : Int) := by omega
        go_wp2_with fail
        go_quiet (fail)
        go_wp2_with fail
        go_ret
        exact ⟨by rw [HE.out]; rfl, below_drewN hB _⟩
      subst hne
      by_cases hne : df = df'
      rotate_left
      · have HE := Lib.hid (show decide (L = L2) = false from by
          rw [decide_eq_false_iff_not]
          exact at_ne HZ.out.1 HZ.out.2 (fun e => hne (congrArg (fun (x : Rtn) => ((((x).2).2).2).1) e)))
        have hne2 : ¬ (df : Int) = (df' : Int) := by omega
        go_wp2_with fail
        go_quiet (fail)
        go_wp2_with fail
        go_ret
        exact ⟨by rw [HE.out]; rfl, below_drewN hB _⟩
      subst hne
      by_cases hne : pn = pn'
      rotate_left
      · have HE := Lib.hid (show decide (L = L2) = false from by
          rw [decide_eq_false_iff_not]
          exact at_ne HZ.out.1 HZ.out.2 (fun e => hne (congrArg (fun (x : Rtn) => (((((x).2).2).2).2).1) e)))
        have hne2 : ¬ (pn : Int) = (pn' : Int) := by omega
        go_wp2_with fail
        go_quiet (fail)
        go_wp2_with fail
        go_ret
        exact ⟨by rw [HE.out]; rfl, below_drewN hB _⟩
      subst hne
      by_cases hne : ky = ky'
      rotate_left
      · have HE := Lib.hid (show decide (L = L2) = false from by
          rw [decide_eq_false_iff_not]
          exact at_ne HZ.out.1 HZ.out.2 (fun e => hne (congrArg (fun (x : Rtn) => (((((x).2).2).2).2).2) e)))
        
        go_wp2_with fail
        go_quiet (fail)
        go_wp2_with fail
        go_ret
        exact ⟨by rw [HE.out]; rfl, below_drewN hB _⟩
      subst hne
      have HN := Lib.hid (upto_eq HZ.out.1 HZ.out.2 HT.out rfl)
      go_wp2_with fail
      go_quiet (fail)
      go_wp2_with fail
      go_roundw
      case rel => exact ⟨j + 1, by omega, by go_num, HN.out, below_drewN hB _⟩
      case measure => simp [intOf]; omega
    · have HE := Lib.hid (show decide (L = L2) = true from by
        have h := HT.out
        rw [List.take_of_length_le (by rw [HL.out.1]; omega), List.take_of_length_le (by rw [HL.out.2]; omega)] at h
        rw [decide_eq_true_eq]; exact h)
      go_wp2_with fail
      go_ret
      exact ⟨by rw [HE.out]; rfl, hB⟩

set_option maxRecDepth 100000 in
set_option maxHeartbeats 3200000 in
theorem great27_any (A : Option Addr) (n c : Nat) (LL : List (List Nat)) (w : World) (hr : RdC w A n LL) (hn : n ≤ 9223372036854775807) :
    Calls Try.prog 10 #[.slice A n c] w fun e w' => ∃ b : Bool, e = .returned (.bool b) ∧ (b = false → n ≤ 20) ∧ w = w' := by
  have HL := Lib.hid hr.1
  go_enter Try.func10, Try.ntmps10
  go_wp2_with fail
  go_loopw [3, 4] (fun s i wr => ∃ j q : Nat, j ≤ n ∧ j ≤ 21 ∧ i = .int .i64 (j : Int) ∧ s = .int .i64 (q : Int) ∧ q ≤ 420 * j ∧ w = wr) (fun _ i _ => n - (intOf i).toNat)
  case atStart => exact ⟨0, 0, by omega, by omega, rfl, rfl, by omega, rfl⟩
  case round =>
    obtain ⟨j, q, hj, hj2, rfl, rfl, hq, rfl⟩ := hrel
    by_cases hlt : j < n
    · have e1 : decide ((j : Int) < n) = true := by simp; omega
      by_cases hlt2 : j ≤ 20
      · have e2 : decide ((j : Int) ≤ 20) = true := by simp; omega
        obtain ⟨ad, Ai, ci, li, hA, hab, hz, c0, hci, hri⟩ := hr.at_ hlt
        subst hA
        clear hz
        by_cases h4 : 420 < li.length
        · have d1 : decide ((li.length : Int) > 420) = true := by simp; omega
          have d2 : (420 : Int) < li.length := by omega
          go_wp2_with fail
          go_ret
          exact ⟨true, rfl, (fun h => by cases h), rfl⟩
        have d1 : decide ((li.length : Int) > 420) = false := by simp; omega
        have d2 : ¬ (420 : Int) < li.length := by omega
        have hw : IntKind.i64.wrap ((q : Int) + li.length) = ((q + li.length : Nat) : Int) := by rw [IntKind.wrap_i64]; omega
        go_wp2_with fail
        go_roundw
        case rel => exact ⟨j + 1, q + li.length, by omega, by omega, by go_num, by go_num, by omega, trivial⟩
        case measure => simp [intOf]; omega
      · have e2 : decide ((j : Int) ≤ 20) = false := by simp; omega
        have e3 : decide ((n : Int) > 20) = true := by simp; omega
        have e4 : (20 : Int) < n := by omega
        go_wp2_with fail
        go_ret
        exact ⟨true, rfl, (fun h => by cases h), rfl⟩
    · obtain rfl : j = n := by omega
      by_cases h20 : 20 < j
      · have e3 : decide ((j : Int) > 20) = true := by simp; omega
        have e4 : (20 : Int) < j := by omega
        go_wp2_with fail
        go_ret
        exact ⟨true, rfl, (fun h => by cases h), rfl⟩
      have e3 : decide ((j : Int) > 20) = false := by simp; omega
      by_cases hq2 : 1000 < q
      · have e4 : decide ((q : Int) > 1000) = true := by simp; omega
        have e5 : (1000 : Int) < q := by omega
        go_wp2_with fail
        go_ret
        exact ⟨true, rfl, (fun h => by cases h), rfl⟩
      have e4 : decide ((q : Int) > 1000) = false := by simp; omega
      have e5 : ¬ (1000 : Int) < q := by omega
      go_wp2_with fail
      go_ret
      exact .inl ⟨rfl, (by omega), rfl⟩

end Go.Proofs.Ytljpggebpfpelaa
