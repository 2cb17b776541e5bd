/- The statements' arguments of this chapter, opened: slices of sections. No conditions beyond those that each one states. -/
import Derived.Test.YteaaiacgebikpaaOpenS
import Derived.Test.YteaaiacgebikpaaSec3
namespace Go.Proofs.Yteaaiacgebikpaa
open Go.ChangeShapes Go.WideShapes Go.ChangeAt Go.RowKit Wire
open Go.Deep (open_slice oneCellFields)
set_option linter.unusedVariables false

theorem two_of {α : Type} {l : List α} (h : l.length = 2) : ∃ a b, l = [a, b] := by
  match l, h with
  | [a, b], _ => exact ⟨a, b, rfl⟩
section
variable {H : Type} {enc : TypeId × Value → H} {W : World} {base b0 : Nat} {r : Reach} {spare : Nat → Bool} {held : Bool} {v : Value} {d : DataW H} {p : List MemPlace} {fuel : Nat} {cs : List Value} {x : DataW H × List MemPlace}
set_option maxRecDepth 100000 in
theorem rd_sec (h : DataW.trod enc Try.prog W base spare held fuel 32 cs = some x) :
    ∃ q : Nat × List UInt8, ∃ (A : Option Addr) (c : Nat), cs = [.int .u8 (q.1 : Int), .slice A q.2.length c] ∧ (q.2.length ≤ c ∧ c ≤ 9223372036854775807) ∧ Rb W A q.2.length q.2 ∧ q.1 < 256 := by
  obtain ⟨hl, n, hfs⟩ := rd_fields Try.underlying32 h
  have hl2 : cs.length = 2 := hl.trans (by kernel_rfl)
  obtain ⟨c0, c1, rfl⟩ := two_of hl2
  · obtain ⟨y0, h0⟩ := hfs 0 _ rfl
    obtain ⟨y1, h1⟩ := hfs 1 _ rfl
    have h0' : DataW.trod enc Try.prog W base spare held n 5 [c0] = some y0 := h0
    have h1' : DataW.trod enc Try.prog W base spare held n 22 [c1] = some y1 := h1
    obtain ⟨b, e0, hb⟩ := rd_u8 Try.underlying5 h0'
    obtain ⟨A, m, c, l, e1, hr, hc⟩ := rd_bytes Try.underlying22 Try.underlying5 (by kernel_rfl) h1'
    have hm := hr.len8
    subst hm
    simp at e0 e1
    subst e0 e1
    exact ⟨(b, l), A, c, rfl, hc, hr, hb⟩
set_option maxRecDepth 100000 in
theorem opn_secs (hv : Value.okWide Try.prog W r b0 24 v) (h : DataW.Trod enc Try.prog W base spare held 24 v d p) :
    ∃ (A : Option Addr) (n c : Nat) (L : List (Nat × List UInt8)), v = .slice A n c ∧ RdS W A n L ∧ (n ≤ c ∧ c ≤ 9223372036854775807) := by
  obtain ⟨a0, len0, cap0, rfl⟩ := okWide_slice Try.underlying24 hv
  obtain ⟨fuel, hf⟩ := h
  obtain ⟨A, n, c, xs, vs, hcs, hx, hvl, hr, hR, hc⟩ := rd_slice (k := 2) (fun (q : Nat × List UInt8) u => ∃ (A : Option Addr) (c : Nat), u = [.int .u8 (q.1 : Int), .slice A q.2.length c] ∧ (q.2.length ≤ c ∧ c ≤ 9223372036854775807) ∧ Rb W A q.2.length q.2 ∧ q.1 < 256) Try.underlying24 (by kernel_rfl) (by omega) (fun f' cs' x' hh => rd_sec hh) hf
  simp [Value.cells] at hcs
  obtain ⟨rfl, rfl, rfl⟩ := hcs
  refine ⟨_, _, _, xs, rfl, ⟨hx, vs, hvl, fun u hu => ?_, hr, fun k q hq => ?_⟩, hc⟩
  · obtain ⟨i, hi, rfl⟩ := List.getElem_of_mem hu
    obtain ⟨u, g1, _, g3⟩ := hR i xs[i] (List.getElem?_eq_getElem (by omega))
    rw [List.getElem?_eq_getElem hi] at g1
    injection g1 with g1
    rw [g1]; exact g3
  · obtain ⟨u, g1, ⟨Ai, ci, g2, g3, g4, g5⟩, _⟩ := hR k q hq
    exact ⟨Ai, ci, by rw [g1, g2], g3, g4, g5⟩
end
end Go.Proofs.Yteaaiacgebikpaa
