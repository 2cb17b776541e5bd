/- Contracts and laws of a chapter that its statement of names leans on. Each states its conditions. -/
import Derived.Test.YtldaijkcmnnjpaaScriptChooses
namespace Go.Proofs.Ytldaijkcmnnjpaa
open Go.RowKit Wire
set_option linter.unusedVariables false
def Rb' (w : World) (A : Option Addr) (n c : Nat) (l : List Int) : Prop := RdI w w.heap.size A n l ∧ n ≤ c
theorem cut_ok (A : Option Addr) (n c : Nat) (l : List Int) (st sk hp rt : Int) (q : Nat) (w : World) (hr : RdI w w.heap.size A n l) (hnc : n ≤ c) (hs : scB st sk hp rt l = true) (hq : q ≤ n) :
    Calls Try.prog 18 #[scr A n c st sk hp rt, .int .i64 (q : Int)] w fun e w' => ∃ A' c', e = .returned (.tuple #[scr A' q c' st sk hp rt, .int .i64 0]) ∧ (Rb' w' A' q c' (l.take q)) ∧ Below w.heap.size w w' := by
  have hl := hr.lenI
  have h5 := (sc_parts hs).2.2.2.2.1
  have he : ctE st sk hp rt l (q : Int) = 0 := by
    unfold ctE; rw [if_pos hs, if_pos (inB_true.2 (by omega))]
  have hL : ctL st sk hp rt l (q : Int) = l.take q := by unfold ctL; rw [if_pos he, Int.toNat_natCast]
  have hlen : (l.take q).length = q := by rw [List.length_take, hl]; omega
  have h := cut_any A n c l st sk hp rt (q : Int) w hr (by omega) hnc (by omega)
  rw [he, hL, hlen] at h
  refine h.mono fun e w' hh => ?_
  obtain ⟨A', c', h1, h2, h3⟩ := hh
  exact ⟨A', c', h1, ⟨own_reads h2, (own_cap h2).1⟩, h3⟩

end Go.Proofs.Ytldaijkcmnnjpaa
