/- The statements' arguments of this chapter, opened: instructions. No conditions beyond those that each one states. -/
import Derived.Test.YtkhdeoihjnpnaaaOpenS
import Derived.Test.YtkhdeoihjnpnaaaOps7
namespace Go.Proofs.Ytkhdeoihjnpnaaa
open Go.ChangeShapes Go.WideShapes Go.ChangeAt Go.RowKit Wire
open Go.Deep (open_slice oneCellFields)
set_option linter.unusedVariables false

theorem four_of {α : Type} {l : List α} (h : l.length = 4) : ∃ a b c d, l = [a, b, c, d] := by
  match l, h with
  | [a, b, c, d], _ => exact ⟨a, b, c, d, rfl⟩
section
variable {H : Type} {enc : TypeId × Value → H} {W : World} {base b0 : Nat} {r : Reach} {spare : Nat → Bool} {held : Bool} {v : Value} {d : DataW H} {p : List MemPlace} {fuel : Nat} {cs : List Value} {x : DataW H × List MemPlace}
set_option maxRecDepth 100000 in
theorem opn_instr (hv : Value.okWide Try.prog W r b0 23 v) (h : DataW.Trod enc Try.prog W base spare held 23 v d p) :
    ∃ (a : Nat) (f s t : Int), v = insV a f s t ∧ a < 256 ∧ (-9223372036854775808 ≤ f ∧ f ≤ 9223372036854775807) ∧ (-9223372036854775808 ≤ s ∧ s ≤ 9223372036854775807) ∧ (-9223372036854775808 ≤ t ∧ t ≤ 9223372036854775807) := by
  obtain ⟨⟨cs⟩, rfl, hsz⟩ := okWide_struct Try.underlying23 hv
  obtain ⟨fuel, hf⟩ := h
  simp only [Value.cells] at hf
  obtain ⟨hl, n, hfs⟩ := rd_fields Try.underlying23 hf
  have hl2 : cs.length = 4 := hl.trans (by kernel_rfl)
  obtain ⟨c0, c1, c2, c3, rfl⟩ := four_of hl2
  obtain ⟨y0, h0⟩ := hfs 0 _ rfl
  obtain ⟨y1, h1⟩ := hfs 1 _ rfl
  obtain ⟨y2, h2⟩ := hfs 2 _ rfl
  obtain ⟨y3, h3⟩ := hfs 3 _ rfl
  have h0' : DataW.trod enc Try.prog W base spare held n 5 [c0] = some y0 := h0
  have h1' : DataW.trod enc Try.prog W base spare held n 3 [c1] = some y1 := h1
  have h2' : DataW.trod enc Try.prog W base spare held n 3 [c2] = some y2 := h2
  have h3' : DataW.trod enc Try.prog W base spare held n 3 [c3] = some y3 := h3
  obtain ⟨a, e0, ha⟩ := rd_u8 Try.underlying5 h0'
  obtain ⟨f, e1, hf1⟩ := rd_i64 Try.underlying3 h1'
  obtain ⟨s, e2, hs⟩ := rd_i64 Try.underlying3 h2'
  obtain ⟨t, e3, ht⟩ := rd_i64 Try.underlying3 h3'
  simp at e0 e1 e2 e3
  subst e0 e1 e2 e3
  exact ⟨a, f, s, t, rfl, ha, hf1, hs, ht⟩
end
end Go.Proofs.Ytkhdeoihjnpnaaa
