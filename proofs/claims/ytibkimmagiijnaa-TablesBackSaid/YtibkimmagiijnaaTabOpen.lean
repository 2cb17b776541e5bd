/- The statements' arguments of this chapter, opened: runs, and lists of numbers. No conditions beyond those that each one states. -/
import Derived.Test.YtibkimmagiijnaaOpenS
import Derived.Test.YtibkimmagiijnaaTab2
namespace Go.Proofs.Ytibkimmagiijnaa
open Go.ChangeShapes Go.WideShapes Go.ChangeAt Go.RowKit Wire
open Go.Deep (open_slice oneCellFields)
set_option linter.unusedVariables false

theorem two_of {α : Type} {l : List α} (h : l.length = 2) : ∃ a b, l = [a, b] := by
  match l, h with
  | [a, b], _ => exact ⟨a, b, rfl⟩
theorem rnC_flat {vs : List (List Value)} {L : List (Int × Nat)} (h1 : L.length = vs.length) (h : ∀ (i : Nat) (p : Int × Nat), L[i]? = some p → vs[i]? = some [.int .i64 p.1, .int .u64 (p.2 : Int)]) : vs.flatten = rnC L := by
  induction L generalizing vs with
  | nil => rcases vs with _ | ⟨u, vs⟩ <;> simp_all [rnC]
  | cons p L ih =>
    rcases vs with _ | ⟨u, vs⟩
    · simp at h1
    · have h0 := h 0 p rfl
      simp at h0
      subst h0
      rw [List.flatten_cons, ih (by simpa using h1) (fun i q hq => by have := h (i + 1) q (by simpa using hq); simpa using this)]
      rfl
section
variable {H : Type} {enc : TypeId × Value → H} {W : World} {base b0 : Nat} {r : Reach} {spare : Nat → Bool} {held : Bool} {v : Value} {d : DataW H} {p : List MemPlace} {fuel : Nat} {cs : List Value} {x : DataW H × List MemPlace}
set_option maxRecDepth 100000 in
theorem rd_run (h : DataW.trod enc Try.prog W base spare held fuel 61 cs = some x) :
    ∃ q : Int × Nat, cs = [.int .i64 q.1, .int .u64 (q.2 : Int)] ∧ fitR q := by
  obtain ⟨hl, n, hfs⟩ := rd_fields Try.underlying61 h
  have hl2 : cs.length = 2 := hl.trans (by kernel_rfl)
  obtain ⟨c0, c1, rfl⟩ := two_of hl2
  obtain ⟨y0, h0⟩ := hfs 0 _ rfl
  obtain ⟨y1, h1⟩ := hfs 1 _ rfl
  have h0' : DataW.trod enc Try.prog W base spare held n 3 [c0] = some y0 := h0
  have h1' : DataW.trod enc Try.prog W base spare held n 31 [c1] = some y1 := h1
  obtain ⟨a, e0, ha⟩ := rd_i64 Try.underlying3 h0'
  obtain ⟨b, e1, hb⟩ := rd_u64 Try.underlying31 h1'
  simp at e0 e1
  subst e0 e1
  exact ⟨(a, b), rfl, ha, hb⟩
set_option maxRecDepth 100000 in
theorem opn_runs (hv : Value.okWide Try.prog W r b0 22 v) (h : DataW.Trod enc Try.prog W base spare held 22 v d p) :
    ∃ (A : Option Addr) (n c : Nat) (L : List (Int × Nat)), v = .slice A n c ∧ RdN W A n L ∧ (n ≤ c ∧ c ≤ 9223372036854775807) := by
  obtain ⟨a0, len0, cap0, rfl⟩ := okWide_slice Try.underlying22 hv
  obtain ⟨fuel, hf⟩ := h
  obtain ⟨A, n, c, xs, vs, hcs, hx, hvl, hr, hR, hc⟩ := rd_slice (k := 2) (fun (q : Int × Nat) u => u = [.int .i64 q.1, .int .u64 (q.2 : Int)] ∧ fitR q) Try.underlying22 (by kernel_rfl) (by omega) (fun f' cs' x' hh => rd_run hh) hf
  simp [Value.cells] at hcs
  obtain ⟨rfl, rfl, rfl⟩ := hcs
  have hfl : vs.flatten = rnC xs := rnC_flat (by omega) (fun i q hq => by
    obtain ⟨u, g1, ⟨g2, _⟩, _⟩ := hR i q hq
    rw [g1, g2])
  rw [hfl] at hr
  refine ⟨_, _, _, xs, rfl, ⟨hr, fun q hq => ?_⟩, hc⟩
  obtain ⟨i, hi, rfl⟩ := List.getElem_of_mem hq
  obtain ⟨u, _, ⟨_, g2⟩, _⟩ := hR i xs[i] (List.getElem?_eq_getElem hi)
  exact g2
set_option maxRecDepth 100000 in
theorem opn_u64s (hv : Value.okWide Try.prog W r b0 25 v) (h : DataW.Trod enc Try.prog W base spare held 25 v d p) :
    ∃ (A : Option Addr) (n c : Nat) (l : List Nat), v = .slice A n c ∧ RdU W A n l ∧ (n ≤ c ∧ c ≤ 9223372036854775807) := by
  obtain ⟨a0, len0, cap0, rfl⟩ := okWide_slice Try.underlying25 hv
  obtain ⟨fuel, hf⟩ := h
  obtain ⟨A, n, c, xs, vs, hcs, hx, hvl, hr, hR, hc⟩ := rd_slice (k := 1) (fun (q : Nat) u => u = [Value.int .u64 (q : Int)] ∧ q < 18446744073709551616) Try.underlying25 (by kernel_rfl) (by omega) (fun f' cs' x' hh => rd_u64 Try.underlying31 hh) hf
  simp [Value.cells] at hcs
  obtain ⟨rfl, rfl, rfl⟩ := hcs
  have hfl : vs.flatten = xs.map vU := by
    have : vs = xs.map fun a => [vU a] := by
      apply List.ext_getElem?
      intro i
      rw [List.getElem?_map]
      by_cases hi : i < xs.length
      · obtain ⟨u, g1, ⟨g2, _⟩, _⟩ := hR i _ (List.getElem?_eq_getElem hi)
        rw [g1, List.getElem?_eq_getElem hi, g2]; rfl
      · rw [List.getElem?_eq_none (by omega), List.getElem?_eq_none (by omega)]; rfl
    rw [this, flat_one]
  rw [hfl] at hr
  refine ⟨_, _, _, xs, rfl, ⟨hr, fun q hq => ?_⟩, hc⟩
  obtain ⟨i, hi, rfl⟩ := List.getElem_of_mem hq
  obtain ⟨u, _, ⟨_, g2⟩, _⟩ := hR i xs[i] (List.getElem?_eq_getElem hi)
  exact g2
end
end Go.Proofs.Ytibkimmagiijnaa
