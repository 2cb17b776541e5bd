/- Contracts and laws of a chapter that its statement of names leans on. Each states its conditions. -/
import Derived.Test.YtldaijkcmnnjpaaHd11
import Derived.BigQuiet
namespace Go.Proofs.Ytldaijkcmnnjpaa
open Go.RowKit Wire
set_option linter.unusedVariables false
theorem upto_eq {α : Type} {l m : List α} {j : Nat} {a b : α} (h1 : l[j]? = some a) (h2 : m[j]? = some b) (h : l.take j = m.take j) (e : a = b) : l.take (j + 1) = m.take (j + 1) := by
  rw [List.take_add_one, List.take_add_one, h1, h2, h, e]
theorem at_ne {α : Type} {l m : List α} {j : Nat} {a b : α} (h1 : l[j]? = some a) (h2 : m[j]? = some b) (e : a ≠ b) : l ≠ m := by
  rintro rfl
  rw [h1] at h2
  injection h2 with h2
  exact e h2
theorem below_drewN {B : Nat} {w w' : World} (h : Below B w w') (k : Nat) : Below B w (w'.drewN k) := ⟨h.os, h.tape, h.output, h.size, h.block⟩
theorem slRT : IsSl Try.prog 95 94 (.agg #[.int .u8 0, .int .u64 0, .int .u64 0, .int .u64 0, .int .u64 0, .int .i64 0]) 6 48 := ⟨Try.underlying95, by kernel_rfl, rfl, by omega, by omega⟩
set_option maxRecDepth 100000 in
set_option maxHeartbeats 6400000 in
theorem sameHeads_any (A : Option Addr) (n c : Nat) (L : List Rtn) (A2 : Option Addr) (n2 c2 : Nat) (L2 : List Rtn) (w : World) (hr : RdT w A n L) (hs : RdT w A2 n2 L2) (hn : n ≤ 1000000) :
    Calls Try.prog 49 #[.slice A n c, .slice A2 n2 c2] w fun e w' => e = .returned (.bool (decide (L = L2))) ∧ Below w.heap.size w w' := by
  have HL := Lib.hid (And.intro hr.1 hs.1)
  go_enter Try.func49, Try.ntmps49
  by_cases hne : n = n2
  rotate_left
  · have d0 : ((n : Int) != (n2 : Int)) = true := by rw [bne_iff_ne]; omega
    have HE := Lib.hid (show decide (L = L2) = false from by
      rw [decide_eq_false_iff_not]
      intro e
      have h := congrArg List.length e
      rw [HL.out.1, HL.out.2] at h
      exact hne h)
    clear hne
    go_wp2_with fail
    go_ret
    exact ⟨by rw [HE.out]; rfl, Below.refl _ _⟩
  subst hne
  go_wp2_with fail
  go_loopw [5] (fun i wr => ∃ j : Nat, j ≤ n ∧ i = .int .i64 (j : Int) ∧ L.take j = L2.take j ∧ Below w.heap.size w wr) (fun i _ => n - (intOf i).toNat)
  case atStart => exact ⟨0, by omega, rfl, rfl, Below.refl _ _⟩
  case round =>
    obtain ⟨j, hj, rfl, ht, hB⟩ := hrel
    have HT := Lib.hid ht
    clear ht
    by_cases hlt : j < n
    · obtain ⟨ad, st, co, sp, df, pn, ky, hA, _, hz, _, c0, c1_, c2_, c3, c4, c5⟩ := (hr.mv hB).at_ hlt
      obtain ⟨ad2, st', co', sp', df', pn', ky', hA2, _, hy, _, d0, d1, d2, d3, d4, d5⟩ := (hs.mv hB).at_ hlt
      have HZ := Lib.hid (And.intro hz hy)
      clear hz hy
      subst hA hA2
      by_cases hne : st = st'
      rotate_left
      · have HE := Lib.hid (show decide (L = L2) = false from by
          rw [decide_eq_false_iff_not]
          exact at_ne HZ.out.1 HZ.out.2 (fun e => hne (congrArg (fun (x : Rtn) => (x).1) e)))
        have hne2 : ¬ (st : Int) = (st' : Int) := by omega
        go_wp2_with fail
        go_quiet (fail)
        go_wp2_with fail
        go_ret
        exact ⟨by rw [HE.out]; rfl, below_drewN hB _⟩
      subst hne
      by_cases hne : co = co'
      rotate_left
      · have HE := Lib.hid (show decide (L = L2) = false from by
          rw [decide_eq_false_iff_not]
          exact at_ne HZ.out.1 HZ.out.2 (fun e => hne (congrArg (fun (x : Rtn) => ((x).2).1) e)))
        have hne2 : ¬ (co : Int) = (co' : Int) := by omega
        go_wp2_with fail
        go_quiet (fail)
        go_wp2_with fail
        go_ret
        exact ⟨by rw [HE.out]; rfl, below_drewN hB _⟩
      subst hne
      by_cases hne : sp = sp'
      rotate_left
      · have HE := Lib.hid (show decide (L = L2) = false from by
          rw [decide_eq_false_iff_not]
          exact at_ne HZ.out.1 HZ.out.2 (fun e => hne (congrArg (fun (x : Rtn) => (((x).2).2).1) e)))
        have hne2 : ¬ (sp : Int) = (sp' : Int) := by omega
        go_wp2_with fail
        go_quiet (fail)
        go_wp2_with fail
        go_ret
        exact ⟨by rw [HE.out]; rfl, below_drewN hB _⟩
      subst hne
      by_cases hne : df = df'
      rotate_left
      · have HE := Lib.hid (show decide (L = L2) = false from by
          rw [decide_eq_false_iff_not]
          exact at_ne HZ.out.1 HZ.out.2 (fun e => hne (congrArg (fun (x : Rtn) => ((((x).2).2).2).1) e)))
        have hne2 : ¬ (df : Int) = (df' : Int) := by omega
        go_wp2_with fail
        go_quiet (fail)
        go_wp2_with fail
        go_ret
        exact ⟨by rw [HE.out]; rfl, below_drewN hB _⟩
      subst hne
      by_cases hne : pn = pn'
      rotate_left
      · have HE := Lib.hid (show decide (L = L2) = false from by
          rw [decide_eq_false_iff_not]
          exact at_ne HZ.out.1 HZ.out.2 (fun e => hne (congrArg (fun (x : Rtn) => (((((x).2).2).2).2).1) e)))
        have hne2 : ¬ (pn : Int) = (pn' : Int) := by omega
        go_wp2_with fail
        go_quiet (fail)
        go_wp2_with fail
        go_ret
        exact ⟨by rw [HE.out]; rfl, below_drewN hB _⟩
      subst hne
      by_cases hne : ky = ky'
      rotate_left
      · have HE := Lib.hid (show decide (L = L2) = false from by
          rw [decide_eq_false_iff_not]
          exact at_ne HZ.out.1 HZ.out.2 (fun e => hne (congrArg (fun (x : Rtn) => (((((x).2).2).2).2).2) e)))
        
        go_wp2_with fail
        go_quiet (fail)
        go_wp2_with fail
        go_ret
        exact ⟨by rw [HE.out]; rfl, below_drewN hB _⟩
      subst hne
      have HN := Lib.hid (upto_eq HZ.out.1 HZ.out.2 HT.out rfl)
      go_wp2_with fail
      go_quiet (fail)
      go_wp2_with fail
      go_roundw
      case rel => exact ⟨j + 1, by omega, by go_num, HN.out, below_drewN hB _⟩
      case measure => simp [intOf]; omega
    · have HE := Lib.hid (show decide (L = L2) = true from by
        have h := HT.out
        rw [List.take_of_length_le (by rw [HL.out.1]; omega), List.take_of_length_le (by rw [HL.out.2]; omega)] at h
        rw [decide_eq_true_eq]; exact h)
      go_wp2_with fail
      go_ret
      exact ⟨by rw [HE.out]; rfl, hB⟩

end Go.Proofs.Ytldaijkcmnnjpaa
