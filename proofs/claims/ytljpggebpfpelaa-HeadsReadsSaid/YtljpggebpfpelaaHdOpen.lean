/- The statements' arguments of this chapter, opened: ends, goroutines, lists of lists of numbers. No conditions beyond those that each one states. -/
import Derived.Test.YtljpggebpfpelaaOpenS
import Derived.Test.YtljpggebpfpelaaHd12
namespace Go.Proofs.Ytljpggebpfpelaa
open Go.ChangeShapes Go.WideShapes Go.ChangeAt Go.RowKit Wire
open Go.Deep (open_slice oneCellFields)
set_option linter.unusedVariables false

/-- The conversion of bytes to a string, in a world. -/
abbrev CvS (A : Option Addr) (n c : Nat) (l : List UInt8) (w : World) : Prop := (convert 26 9 (.slice A n c)).run Try.prog w = .ok (.string ⟨l.toArray⟩) w
theorem cvS {A : Option Addr} {n : Nat} {l : List UInt8} {w : World} {B : Nat} (c : Nat) (h : RdB w B A n l) : CvS A n c l w := conv_to_str _ _ _ Try.underlying26 Try.underlying5 Try.underlying9 c h
theorem three_of {α : Type} {l : List α} (h : l.length = 3) : ∃ a b c, l = [a, b, c] := by
  match l, h with
  | [a, b, c], _ => exact ⟨a, b, c, rfl⟩
theorem six_of {α : Type} {l : List α} (h : l.length = 6) : ∃ a b c d e f, l = [a, b, c, d, e, f] := by
  match l, h with
  | [a, b, c, d, e, f], _ => exact ⟨a, b, c, d, e, f, rfl⟩
theorem rtC_flat {vs : List (List Value)} {L : List Rtn} (h1 : L.length = vs.length) (h : ∀ (i : Nat) (p : Rtn), L[i]? = some p → vs[i]? = some (rtC p)) : vs.flatten = (L.map rtC).flatten := by
  congr 1
  apply List.ext_getElem?
  intro i
  rw [List.getElem?_map]
  by_cases hi : i < L.length
  · rw [h i _ (List.getElem?_eq_getElem hi), List.getElem?_eq_getElem hi]; rfl
  · rw [List.getElem?_eq_none (by omega), List.getElem?_eq_none (by omega)]; rfl
section
variable {H : Type} {enc : TypeId × Value → H} {W : World} {base b0 : Nat} {r : Reach} {spare : Nat → Bool} {held : Bool} {v : Value} {d : DataW H} {p : List MemPlace} {fuel : Nat} {cs : List Value} {x : DataW H × List MemPlace}
set_option maxRecDepth 100000 in
theorem opn_ended (hv : Value.okWide Try.prog W r b0 23 v) (h : DataW.Trod enc Try.prog W base spare held 23 v d p) :
    ∃ (a : Nat) (f s : Int), v = endV a f s ∧ a < 256 ∧ (-9223372036854775808 ≤ f ∧ f ≤ 9223372036854775807) ∧ (-9223372036854775808 ≤ s ∧ s ≤ 9223372036854775807) := by
  obtain ⟨⟨cs⟩, rfl, hsz⟩ := okWide_struct Try.underlying23 hv
  obtain ⟨fuel, hf⟩ := h
  simp only [Value.cells] at hf
  obtain ⟨hl, n, hfs⟩ := rd_fields Try.underlying23 hf
  have hl2 : cs.length = 3 := hl.trans (by kernel_rfl)
  obtain ⟨c0, c1, c2, rfl⟩ := three_of hl2
  obtain ⟨y0, h0⟩ := hfs 0 _ rfl
  obtain ⟨y1, h1⟩ := hfs 1 _ rfl
  obtain ⟨y2, h2⟩ := hfs 2 _ rfl
  have h0' : DataW.trod enc Try.prog W base spare held n 5 [c0] = some y0 := h0
  have h1' : DataW.trod enc Try.prog W base spare held n 3 [c1] = some y1 := h1
  have h2' : DataW.trod enc Try.prog W base spare held n 3 [c2] = some y2 := h2
  obtain ⟨a, e0, ha⟩ := rd_u8 Try.underlying5 h0'
  obtain ⟨f, e1, hf1⟩ := rd_i64 Try.underlying3 h1'
  obtain ⟨s, e2, hs⟩ := rd_i64 Try.underlying3 h2'
  simp at e0 e1 e2
  subst e0 e1 e2
  exact ⟨a, f, s, rfl, ha, hf1, hs⟩
set_option maxRecDepth 100000 in
theorem rd_rout (h : DataW.trod enc Try.prog W base spare held fuel 53 cs = some x) :
    ∃ q : Rtn, cs = rtC q ∧ rtOk q := by
  obtain ⟨hl, n, hfs⟩ := rd_fields Try.underlying53 h
  have hl2 : cs.length = 6 := hl.trans (by kernel_rfl)
  obtain ⟨c0, c1, c2, c3, c4, c5, rfl⟩ := six_of hl2
  obtain ⟨y0, h0⟩ := hfs 0 _ rfl
  have h0' : DataW.trod enc Try.prog W base spare held n 5 [c0] = some y0 := h0
  obtain ⟨a0, e0, b0⟩ := rd_u8 Try.underlying5 h0'
  simp at e0
  subst e0
  obtain ⟨y1, h1⟩ := hfs 1 _ rfl
  have h1' : DataW.trod enc Try.prog W base spare held n 51 [c1] = some y1 := h1
  obtain ⟨a1, e1, b1⟩ := rd_u64 Try.underlying51 h1'
  simp at e1
  subst e1
  obtain ⟨y2, h2⟩ := hfs 2 _ rfl
  have h2' : DataW.trod enc Try.prog W base spare held n 51 [c2] = some y2 := h2
  obtain ⟨a2, e2, b2⟩ := rd_u64 Try.underlying51 h2'
  simp at e2
  subst e2
  obtain ⟨y3, h3⟩ := hfs 3 _ rfl
  have h3' : DataW.trod enc Try.prog W base spare held n 51 [c3] = some y3 := h3
  obtain ⟨a3, e3, b3⟩ := rd_u64 Try.underlying51 h3'
  simp at e3
  subst e3
  obtain ⟨y4, h4⟩ := hfs 4 _ rfl
  have h4' : DataW.trod enc Try.prog W base spare held n 51 [c4] = some y4 := h4
  obtain ⟨a4, e4, b4⟩ := rd_u64 Try.underlying51 h4'
  simp at e4
  subst e4
  obtain ⟨y5, h5⟩ := hfs 5 _ rfl
  have h5' : DataW.trod enc Try.prog W base spare held n 2 [c5] = some y5 := h5
  obtain ⟨a5, e5, b5⟩ := rd_i64 Try.underlying2 h5'
  simp at e5
  subst e5
  exact ⟨(a0, a1, a2, a3, a4, a5), rfl, b0, b1, b2, b3, b4, b5⟩
set_option maxRecDepth 100000 in
theorem opn_routs (hv : Value.okWide Try.prog W r b0 24 v) (h : DataW.Trod enc Try.prog W base spare held 24 v d p) :
    ∃ (A : Option Addr) (n c : Nat) (L : List Rtn), v = .slice A n c ∧ RdT W A n L ∧ (n ≤ c ∧ c ≤ 9223372036854775807) := by
  obtain ⟨a0, len0, cap0, rfl⟩ := okWide_slice Try.underlying24 hv
  obtain ⟨fuel, hf⟩ := h
  obtain ⟨A, n, c, xs, vs, hcs, hx, hvl, hr, hR, hc⟩ := rd_slice (k := 6) (fun (q : Rtn) u => u = rtC q ∧ rtOk q) Try.underlying24 (by kernel_rfl) (by omega) (fun f' cs' x' hh => rd_rout hh) hf
  simp [Value.cells] at hcs
  obtain ⟨rfl, rfl, rfl⟩ := hcs
  have hfl : vs.flatten = (xs.map rtC).flatten := rtC_flat (by omega) (fun i q hq => by
    obtain ⟨u, g1, ⟨g2, _⟩, _⟩ := hR i q hq
    rw [g1, g2])
  rw [hfl] at hr
  refine ⟨_, _, _, xs, rfl, ⟨hx, hr, fun q hq => ?_⟩, hc⟩
  obtain ⟨i, hi, rfl⟩ := List.getElem_of_mem hq
  obtain ⟨u, _, ⟨_, g2⟩, _⟩ := hR i xs[i] (List.getElem?_eq_getElem hi)
  exact g2
set_option maxRecDepth 100000 in
theorem rd_u64s (h : DataW.trod enc Try.prog W base spare held fuel 63 cs = some x) :
    ∃ l : List Nat, ∃ (A : Option Addr) (c : Nat), cs = [.slice A l.length c] ∧ (l.length ≤ c ∧ c ≤ 9223372036854775807) ∧ RdU W A l.length l := by
  obtain ⟨A, n, c, xs, vs, hcs, hx, hvl, hr, hR, hc⟩ := rd_slice (k := 1) (fun (q : Nat) u => u = [Value.int .u64 (q : Int)] ∧ q < 18446744073709551616) Try.underlying63 (by kernel_rfl) (by omega) (fun f' cs' x' hh => rd_u64 Try.underlying51 hh) h
  have hfl : vs.flatten = xs.map vU := by
    have : vs = xs.map fun a => [vU a] := by
      apply List.ext_getElem?
      intro i
      rw [List.getElem?_map]
      by_cases hi : i < xs.length
      · obtain ⟨u, g1, ⟨g2, _⟩, _⟩ := hR i _ (List.getElem?_eq_getElem hi)
        rw [g1, List.getElem?_eq_getElem hi, g2]; rfl
      · rw [List.getElem?_eq_none (by omega), List.getElem?_eq_none (by omega)]; rfl
    rw [this, flat_one]
  rw [hfl] at hr
  subst hx
  refine ⟨xs, A, c, hcs, hc, hr, fun q hq => ?_⟩
  obtain ⟨i, hi, rfl⟩ := List.getElem_of_mem hq
  obtain ⟨u, _, ⟨_, g2⟩, _⟩ := hR i xs[i] (List.getElem?_eq_getElem hi)
  exact g2
set_option maxRecDepth 100000 in
theorem opn_u64ss (hv : Value.okWide Try.prog W r b0 25 v) (h : DataW.Trod enc Try.prog W base spare held 25 v d p) :
    ∃ (A : Option Addr) (n c : Nat) (LL : List (List Nat)), v = .slice A n c ∧ RdC W A n LL ∧ (n ≤ c ∧ c ≤ 9223372036854775807) := by
  obtain ⟨a0, len0, cap0, rfl⟩ := okWide_slice Try.underlying25 hv
  obtain ⟨fuel, hf⟩ := h
  obtain ⟨A, n, c, xs, vs, hcs, hx, hvl, hr, hR, hc⟩ := rd_slice (k := 1) (fun (l : List Nat) u => ∃ (A : Option Addr) (c : Nat), u = [.slice A l.length c] ∧ (l.length ≤ c ∧ c ≤ 9223372036854775807) ∧ RdU W A l.length l) Try.underlying25 (by kernel_rfl) (by omega) (fun f' cs' x' hh => rd_u64s hh) hf
  simp [Value.cells] at hcs
  obtain ⟨rfl, rfl, rfl⟩ := hcs
  have hvf : ∀ (k : Nat) (li : List Nat), xs[k]? = some li → ∃ Ai ci, vs.flatten[k]? = some (Value.slice Ai li.length ci) ∧ (li.length ≤ ci ∧ ci ≤ 9223372036854775807) ∧ RdU W Ai li.length li := by
    intro k li hk
    obtain ⟨u, g1, ⟨Ai, ci, g2, g3, g4⟩, _⟩ := hR k li hk
    refine ⟨Ai, ci, ?_, g3, g4⟩
    rw [flat_get (k := 1) (by omega) (fun u hu => by
      obtain ⟨i, hi, rfl⟩ := List.getElem_of_mem hu
      obtain ⟨u, g1, _, g3⟩ := hR i xs[i] (List.getElem?_eq_getElem (by omega))
      rw [List.getElem?_eq_getElem hi] at g1
      injection g1 with g1
      rw [g1]; exact g3) k, Nat.div_one, g1, g2, Nat.mod_one]
    rfl
  exact ⟨_, _, _, xs, rfl, ⟨hx, vs.flatten, hr, hvf⟩, hc⟩
end
end Go.Proofs.Ytljpggebpfpelaa
