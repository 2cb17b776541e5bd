/- Contracts and laws of a chapter that its statement of names leans on. Each states its conditions. -/
import Derived.Test.YtldaijkcmnnjpaaMem23
import Derived.Test.YtldaijkcmnnjpaaMemoryReads
namespace Go.Proofs.Ytldaijkcmnnjpaa
open Go.RowKit Wire
set_option linter.unusedVariables false
theorem RdR.ones {w : World} {A : Option Addr} {n : Nat} {L : List (Nat × List UInt8)} (h : RdR w A n L) : ∃ vs : List (List Value), vs.length = n ∧ (∀ u ∈ vs, u.length = 2) ∧ (∀ u ∈ vs.flatten, u.oneCell' = true) ∧ Reads w w.heap.size 2 A n vs.flatten ∧
    ∀ (k : Nat) (p : Nat × List UInt8), L[k]? = some p → ∃ Ai ci, vs[k]? = some [.int .u64 (p.1 : Int), .slice Ai p.2.length ci] ∧ (p.2.length ≤ ci ∧ ci ≤ 9223372036854775807) ∧ Rb w Ai p.2.length p.2 ∧ p.1 < 18446744073709551616 := by
  obtain ⟨h1, vs, h2, h3, h4, h5⟩ := h
  refine ⟨vs, h2, h3, fun u hu => ?_, h4, h5⟩
  obtain ⟨u1, hu1, hu2⟩ := List.mem_flatten.1 hu
  obtain ⟨k, hk, rfl⟩ := List.getElem_of_mem hu1
  obtain ⟨Ai, ci, g1, _⟩ := h5 k L[k] (List.getElem?_eq_getElem (by omega))
  rw [List.getElem?_eq_getElem hk] at g1
  injection g1 with g1
  rw [g1] at hu2
  simp at hu2
  rcases hu2 with rfl | rfl <;> rfl
/-- A region ahead of others, in a row of the call's own. -/
theorem RdR.cons_ {w : World} {base b n ch c' : Nat} {A' Ah : Option Addr} {l0 : List UInt8} {L : List (Nat × List UInt8)} {vs : List (List Value)} (hLn : L.length = n) (h2 : vs.length = n) (h3 : ∀ u ∈ vs, u.length = 2)
    (h5 : ∀ (k : Nat) (p : Nat × List UInt8), L[k]? = some p → ∃ Ai ci, vs[k]? = some [.int .u64 (p.1 : Int), .slice Ai p.2.length ci] ∧ (p.2.length ≤ ci ∧ ci ≤ 9223372036854775807) ∧ Rb w Ai p.2.length p.2 ∧ p.1 < 18446744073709551616)
    (hr : Rb w Ah l0.length l0) (hc : l0.length ≤ ch ∧ ch ≤ 9223372036854775807) (hb : b < 18446744073709551616)
    (ho : w.ownsRow base 75 2 (.slice A' (1 + n) c') (1 + n) ([.int .u64 (b : Int), .slice Ah l0.length ch] ++ vs.flatten)) : RdR w A' (1 + n) ((b, l0) :: L) := by
  refine ⟨by simp [hLn]; omega, [.int .u64 (b : Int), .slice Ah l0.length ch] :: vs, by simp [h2]; omega, fun u hu => ?_, by simpa using Reads.of_own ho, fun k p hp => ?_⟩
  · rcases List.mem_cons.1 hu with rfl | hu
    · rfl
    · exact h3 u hu
  · rcases k with _ | k
    · simp at hp
      subst hp
      exact ⟨Ah, ch, rfl, hc, hr, hb⟩
    · simp at hp
      obtain ⟨Ai, ci, g1, g2⟩ := h5 k p hp
      exact ⟨Ai, ci, by simpa using g1, g2⟩

end Go.Proofs.Ytldaijkcmnnjpaa
