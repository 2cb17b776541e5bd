/- Contracts and laws of a chapter that its statement of names leans on. Each states its conditions. -/
import Derived.Test.YtldaijkcmnnjpaaMem2
namespace Go.Proofs.Ytldaijkcmnnjpaa
open Go.RowKit Wire
set_option linter.unusedVariables false
/-- Regions' bytes, each behind its length. -/
def rgs (L : List (Nat × List UInt8)) : List UInt8 := (L.map fun p => vry p.2.length ++ p.2).flatten
def stL (L : List (Nat × List UInt8)) : List UInt8 := vry L.length ++ rgs L
theorem rgs_take {L : List (Nat × List UInt8)} {j b : Nat} {l : List UInt8} (h : L[j]? = some (b, l)) : rgs (L.take (j + 1)) = rgs (L.take j) ++ (vry l.length ++ l) := by
  rw [List.take_add_one, h]
  simp [rgs]
def whS (L : List (Nat × List UInt8)) : List UInt8 := if stB L then stL L else []
def whSE (L : List (Nat × List UInt8)) : Int := if stB L then 0 else 8
theorem stk_bd {L : List (Nat × List UInt8)} : ∀ {i : Nat}, stkB i L = true → ∀ p ∈ L, p.2.length ≤ 4096 := by
  induction L with
  | nil => intro i _ p hp; simp at hp
  | cons q L ih =>
    intro i h p hp
    simp only [stkB, Bool.and_eq_true] at h
    rcases List.mem_cons.1 hp with rfl | hp
    · have := h.1
      simp [fitB] at this
      omega
    · exact ih h.2 p hp
theorem stB_bd {L : List (Nat × List UInt8)} (h : stB L = true) : L.length ≤ 16 ∧ ∀ p ∈ L, p.2.length ≤ 4096 := by
  simp only [stB, Bool.and_eq_true, decide_eq_true_eq] at h
  exact ⟨h.2.2, stk_bd h.1⟩

end Go.Proofs.Ytldaijkcmnnjpaa
