/- Contracts and laws of a chapter that its statement of names leans on. Each states its conditions. -/
import Derived.Test.YtldaijkcmnnjpaaMem14
import Derived.Lib.SliceRun
namespace Go.Proofs.Ytldaijkcmnnjpaa
open Go.RowKit Wire
set_option linter.unusedVariables false
set_option maxRecDepth 100000 in
set_option maxHeartbeats 1600000 in
theorem clone_any (A : Option Addr) (n c : Nat) (l : List UInt8) (w : World) (hr : Rb w A n l) (hn : n ≤ 1000000) :
    Calls Try.prog 105 #[.slice A n c] w fun e w' => ∃ A' c', e = .returned (.slice A' l.length c') ∧ w'.ownsRow w.heap.size 5 1 (.slice A' l.length c') l.length (l.map b8) ∧ Below w.heap.size w w' := by
  have hl := hr.len8
  subst hl
  have q := fun W (a : Option Addr) (n c : Nat) => Lib.run_eql_slice_nil (P := Try.prog) W _ _ a n c 0 0 Try.underlying25
  rcases A with _ | ad
  · have hl0 : l = [] := by
      rcases Nat.eq_zero_or_pos l.length with h | h
      · exact List.eq_nil_of_length_eq_zero h
      · obtain ⟨ad, e, _⟩ := hr.2 h; cases e
    subst hl0
    go_enter Try.func105, Try.ntmps105
    go_wp2_with fail
    go_ret
    exact ⟨none, 0, rfl, World.ownsRow_nil _ _ _ _, Below.refl _ _⟩
  have hR := Reads.al hr (.cells #[] 5)
  have ho := own_empty w (Nat.le_refl _) 5 1
  go_enter Try.func105, Try.ntmps105
  go_wp2_with (at_builtin; refine wpList_app8 (l := []) rfl (.tmp 5) (.tmp 6) _ (by rfl) sl8 w.heap.size (by rfl) ho (by rfl) hR l.length (by omega) (by omega) (by simp) ?_; intro A6 c6 w6 o6 b6; rw [List.nil_append] at o6)
  go_ret
  exact ⟨A6, c6, rfl, o6, ((Below.refl _ _).alloc (Nat.le_refl _) _).trans b6⟩

end Go.Proofs.Ytldaijkcmnnjpaa
