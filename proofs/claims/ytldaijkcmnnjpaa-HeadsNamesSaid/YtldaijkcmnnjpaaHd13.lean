/- Contracts and laws of a chapter that its statement of names leans on. Each states its conditions. -/
import Derived.Test.YtldaijkcmnnjpaaHd11
import Derived.Test.YtldaijkcmnnjpaaWireRdLaw
import Derived.Test.YtldaijkcmnnjpaaWireBackLaw
import Derived.Test.YtldaijkcmnnjpaaWireUnsig
namespace Go.Proofs.Ytldaijkcmnnjpaa
open Go.RowKit Wire
set_option linter.unusedVariables false
/-- A minimal number of at most another one, at a place. -/
def nm (l : List UInt8) (a most : Nat) : Option (Nat × Nat) := if uvE l (a : Int) most = 0 then some ((uvR l (a : Int)).2.1, a + (uvR l (a : Int)).2.2) else none
theorem uvE_ok {l : List UInt8} {a most : Nat} (h : uvE l (a : Int) most = 0) : l.length ≤ 200000 ∧ a ≤ l.length ∧ (uvR l (a : Int)).1 = 0 ∧ (uvR l (a : Int)).2.1 ≤ most := by
  unfold uvE at h
  by_cases hc : ckB l.length (a : Int) = true
  · rw [if_pos hc] at h
    have h1 := ck_ok hc
    by_cases h0 : (uvR l (a : Int)).1 = 0
    · rw [if_neg (by simpa using h0)] at h
      by_cases h2 : most < (uvR l (a : Int)).2.1
      · rw [if_pos h2] at h; omega
      · exact ⟨h1.1, by omega, h0, by omega⟩
    · rw [if_pos h0] at h; exact absurd h h0
  · rw [if_neg hc] at h; omega
theorem nm_ok {l : List UInt8} {a most v e : Nat} (h : nm l a most = some (v, e)) :
    l.length ≤ 200000 ∧ v ≤ most ∧ v < 18446744073709551616 ∧ a < e ∧ e ≤ l.length ∧ l.drop a = vry v ++ l.drop e ∧ e = a + (vry v).length := by
  unfold nm at h
  by_cases hu : uvE l (a : Int) most = 0
  · rw [if_pos hu] at h
    injection h with h
    injection h with h1 h2
    obtain ⟨k1, k2, k3, k4⟩ := uvE_ok hu
    have hr := rd_lt (l := l.drop a) (by simpa [uvR] using k3)
    simp only [uvR, Int.toNat_natCast] at h1 h2 k3 k4
    obtain ⟨r, hr0⟩ : ∃ r, rdV 0 0 (l.drop a) = r := ⟨_, rfl⟩
    rw [hr0] at h1 h2 k3 k4 hr
    obtain ⟨e0, v0, k0⟩ := r
    simp only at h1 h2 k3 k4 hr
    subst h1
    subst h2
    obtain ⟨q1, q2, q3, q4⟩ := hr
    rw [List.length_drop] at q3
    have ql : (vry v0).length = k0 := by rw [← q4, List.length_take, List.length_drop]; omega
    refine ⟨k1, k4, q1, by omega, by omega, ?_, by omega⟩
    rw [← q4, ← List.drop_drop, List.take_append_drop]
  · rw [if_neg hu] at h; cases h
/-- An end that some bytes are. -/
def red (l : List UInt8) : Option (Nat × Int × Int) :=
  match l with
  | [] => none
  | x :: _ => (nm l 1 18446744073709551615).bind fun p => (nm l p.2 5000).bind fun q => if q.2 = l.length ∧ enB x.toNat (hlf p.1) (q.1 : Int) = true then some (x.toNat, hlf p.1, (q.1 : Int)) else none
/-- A goroutine with an index, at a place. -/
def pHd (l : List UInt8) (g a : Nat) : Option (Rtn × Nat) :=
  if a < l.length then
    (nm l (a + 1) 18446744073709551615).bind fun p1 => (nm l p1.2 512).bind fun p2 => (nm l p2.2 2305843009213693951).bind fun p3 => (nm l p3.2 2305843009213693951).bind fun p4 => (nm l p4.2 18446744073709551615).bind fun p5 =>
      some ((((l[a]?).getD 0).toNat, p1.1, 16777216 * (g + 1) + 8 * p2.1, 8 * p3.1, 8 * p4.1, hlf p5.1), p5.2)
  else none
def pHds (l : List UInt8) : Nat → Nat → Nat → Option (List Rtn × Nat)
  | 0, _, a => some ([], a)
  | k + 1, g, a => (pHd l g a).bind fun p => (pHds l k (g + 1) p.2).bind fun q => some (p.1 :: q.1, q.2)
def rhds (l : List UInt8) : Option (List Rtn × Nat) := (nm l 0 16).bind fun p => pHds l p.1 0 p.2
def rhd (l : List UInt8) : Option (List Rtn) := (rhds l).bind fun q => if q.2 = l.length ∧ hsB q.1 = true then some q.1 else none
theorem hlf_rng {n : Nat} (h : n < 18446744073709551616) : -9223372036854775808 ≤ hlf n ∧ hlf n ≤ 9223372036854775807 := by
  unfold hlf; split <;> omega
/-- A list of addresses, of a number of them, at a place. -/
def pAd (l : List UInt8) : Nat → Nat → Option (List Nat × Nat)
  | 0, a => some ([], a)
  | k + 1, a => (nm l a 2305843009213693951).bind fun p => (pAd l k p.2).bind fun q => some (8 * p.1 :: q.1, q.2)
def pCh (l : List UInt8) (a : Nat) : Option (List Nat × Nat) := (nm l a 410).bind fun p => pAd l p.1 p.2
def pChs (l : List UInt8) : Nat → Nat → Option (List (List Nat) × Nat)
  | 0, a => some ([], a)
  | k + 1, a => (pCh l a).bind fun p => (pChs l k p.2).bind fun q => some (p.1 :: q.1, q.2)
def rchs (l : List UInt8) : Option (List (List Nat) × Nat) := (nm l 0 16).bind fun p => pChs l p.1 p.2
def rch (l : List UInt8) : Option (List (List Nat)) := (rchs l).bind fun q => if q.2 = l.length ∧ csB q.1 = true then some q.1 else none

end Go.Proofs.Ytldaijkcmnnjpaa
