/- A slice of slices of bytes that reads as a list of lists. No conditions beyond those that each fact states. -/
import Derived.Test.YtkhdeoihjnpnaaaMem
namespace Go.Proofs.Ytkhdeoihjnpnaaa
open Go.RowKit
set_option linter.unusedVariables false

/-- The slice '.slice A n _' reads as LL: each element is a slice that reads as a list of bytes. -/
def Rbb (w : World) (A : Option Addr) (n : Nat) (LL : List (List UInt8)) : Prop :=
  LL.length = n ∧ ∃ vs : List Value, Reads w w.heap.size 1 A n vs ∧ ∀ (k : Nat) (li : List UInt8), LL[k]? = some li → ∃ Ai ci, vs[k]? = some (.slice Ai li.length ci) ∧ (li.length ≤ ci ∧ ci ≤ 9223372036854775807) ∧ Rb w Ai li.length li
theorem Rbb.mv {w w' : World} {A : Option Addr} {n : Nat} {LL : List (List UInt8)} (h : Rbb w A n LL) (hb : Below w.heap.size w w') : Rbb w' A n LL := by
  obtain ⟨h1, vs, h2, h3⟩ := h
  refine ⟨h1, vs, h2.mv hb, fun k li hk => ?_⟩
  obtain ⟨Ai, ci, hv, hc, hr⟩ := h3 k li hk
  exact ⟨Ai, ci, hv, hc, hr.mv hb⟩
theorem Rbb.at_ {w : World} {A : Option Addr} {n : Nat} {LL : List (List UInt8)} (h : Rbb w A n LL) {k : Nat} (hk : k < n) :
    ∃ ad Ai ci li, A = some ad ∧ ad.block < w.heap.size ∧ LL[k]? = some li ∧ w.cell? (ad.add k) = some (.slice Ai li.length ci) ∧ (li.length ≤ ci ∧ ci ≤ 9223372036854775807) ∧ Rb w Ai li.length li := by
  obtain ⟨h1, vs, h2, h3⟩ := h
  obtain ⟨ad, u, rfl, hb, hx, hc⟩ := h2.at_ hk
  have hl : k < LL.length := by omega
  obtain ⟨Ai, ci, hv, hci, hr⟩ := h3 k LL[k] (List.getElem?_eq_getElem hl)
  rw [hx] at hv
  injection hv with hv
  subst hv
  exact ⟨ad, Ai, ci, LL[k], rfl, hb, List.getElem?_eq_getElem hl, hc, hci, hr⟩
theorem flat_take {α : Type} {LL : List (List α)} {k : Nat} {li : List α} (h : LL[k]? = some li) : (LL.take (k + 1)).flatten = (LL.take k).flatten ++ li := by
  rw [take_succ_of h, List.flatten_append]; simp
theorem flat_take_le {α : Type} (LL : List (List α)) (k : Nat) : (LL.take k).flatten.length ≤ LL.flatten.length := by
  have h : LL.flatten = (LL.take k).flatten ++ (LL.drop k).flatten := by rw [← List.flatten_append, List.take_append_drop]
  rw [h, List.length_append]; omega
end Go.Proofs.Ytkhdeoihjnpnaaa
