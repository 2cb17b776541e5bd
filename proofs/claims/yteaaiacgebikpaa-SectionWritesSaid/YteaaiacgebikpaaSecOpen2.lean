/- The statements' arguments of this chapter, opened: slices of ints. No conditions beyond those that each one states. -/
import Derived.Test.YteaaiacgebikpaaSecOpen
import Derived.Test.YteaaiacgebikpaaSec8
namespace Go.Proofs.Yteaaiacgebikpaa
open Go.ChangeShapes Go.WideShapes Go.ChangeAt Go.RowKit Wire
open Go.Deep (open_slice oneCellFields)
set_option linter.unusedVariables false

theorem flat_one25 {α : Type} {β : Type} (f : α → β) (l : List α) : (l.map fun a => [f a]).flatten = l.map f := by
  induction l with
  | nil => rfl
  | cons a l ih => simp [ih]
section
variable {H : Type} {enc : TypeId × Value → H} {W : World} {base b0 : Nat} {r : Reach} {spare : Nat → Bool} {held : Bool} {v : Value} {d : DataW H} {p : List MemPlace} {fuel : Nat} {cs : List Value} {x : DataW H × List MemPlace}
set_option maxRecDepth 100000 in
theorem opn_ints (hv : Value.okWide Try.prog W r b0 39 v) (h : DataW.Trod enc Try.prog W base spare held 39 v d p) :
    ∃ (A : Option Addr) (n c : Nat) (l : List Int), v = .slice A n c ∧ RdY W A n l ∧ (n ≤ c ∧ c ≤ 9223372036854775807) := by
  obtain ⟨a0, len0, cap0, rfl⟩ := okWide_slice Try.underlying39 hv
  obtain ⟨fuel, hf⟩ := h
  obtain ⟨A, n, c, xs, vs, hcs, hx, hvl, hr, hR, hc⟩ := rd_slice (k := 1) (fun (q : Int) u => u = [Value.int .i64 q] ∧ (-9223372036854775808 ≤ q ∧ q ≤ 9223372036854775807)) Try.underlying39 (by kernel_rfl) (by omega) (fun f' cs' x' hh => rd_i64 Try.underlying3 hh) hf
  simp [Value.cells] at hcs
  obtain ⟨rfl, rfl, rfl⟩ := hcs
  have hfl : vs.flatten = xs.map (Value.int .i64) := by
    have : vs = xs.map fun a => [Value.int .i64 a] := by
      apply List.ext_getElem?
      intro i
      rw [List.getElem?_map]
      by_cases hi : i < xs.length
      · obtain ⟨u, g1, ⟨g2, _⟩, _⟩ := hR i _ (List.getElem?_eq_getElem hi)
        rw [g1, List.getElem?_eq_getElem hi, g2]; rfl
      · rw [List.getElem?_eq_none (by omega), List.getElem?_eq_none (by omega)]; rfl
    rw [this, flat_one25]
  rw [hfl] at hr
  refine ⟨_, _, _, xs, rfl, ⟨hr, fun q hq => ?_⟩, hc⟩
  obtain ⟨k, hk, rfl⟩ := List.getElem_of_mem hq
  obtain ⟨u, _, ⟨_, g2⟩, _⟩ := hR k _ (List.getElem?_eq_getElem hk)
  exact g2
end
end Go.Proofs.Yteaaiacgebikpaa
