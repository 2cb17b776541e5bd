/- What the operands of operations are: definitions. -/
import Derived.Test.YtkhdeoihjnpnaaaOps1
namespace Go.Proofs.Ytkhdeoihjnpnaaa
open Go.RowKit Wire
set_option linter.unusedVariables false

/-- What the operands of an operation are, and how many it has. -/
def shT : List (List Use × Int) := [([uNo, uNo, uNo], -1), ([uWr, uWh, uNo], 2), ([uWr, uBl 32, uNo], 2), ([uWr, uBl 2, uNo], 2), ([uWr, uNo, uNo], 1), ([uWr, uRd, uNo], 2), ([uWr, uRd, uRd], 3), ([uWr, uRd, uRd], 3), ([uWr, uRd, uRd], 3), ([uWr, uRd, uRd], 3), ([uWr, uRd, uRd], 3), ([uWr, uRd, uRd], 3), ([uWr, uRd, uNo], 2), ([uWr, uRd, uBl 8], 3), ([uRd, uBl 8, uRd], 3), ([uWr, uNo, uNo], 1), ([uWr, uRd, uNo], 2), ([uRd, uRd, uNo], 2), ([uWr, uRd, uNo], 2), ([uWr, uRd, uRd], 3), ([uRd, uRd, uRd], 3), ([uWr, uRd, uNo], 2), ([uBl 200, uNo, uNo], 1), ([uRd, uBl 200, uNo], 2), ([uRd, uNo, uNo], 1), ([(-1, 15, false, true), uBl 32, uNo], 2), ([uBl 32, uNo, uNo], 1), ([uBl 32, uNo, uNo], 1), ([uRd, uNo, uNo], 1), ([uWr, uWr, uNo], 2), ([uNo, uNo, uNo], 0), ([uNo, uNo, uNo], 0), ([uRd, uNo, uNo], 1), ([uWr, uRd, uNo], 2), ([(-1, 15, true, false), uNo, uNo], 1)]
def shp (op : Nat) : List Use × Int := shT.getD op ([uNo, uNo, uNo], -1)
theorem reads_blk2 {w : World} {g : Nat} {t : TypeId} {cs : Array Value} (h : Blk w g t cs) (size n : Nat) (hn : cs.size = n * size) : Reads w w.heap.size size (some ⟨g, 0, none⟩) n cs.toList := by
  refine ⟨by simpa using hn, fun _ => ⟨_, rfl, h.lt, fun j u hu => ?_⟩⟩
  have hadd : (⟨g, 0, none⟩ : Addr).add j = ⟨g, j, none⟩ := by unfold Addr.add; split <;> simp_all
  rw [hadd, h.cell j]
  simpa using hu
theorem x_then_exit {K : Act → World → Prop} {Q : Exit → Act → World → Prop} {m : Nat} {a : Act} {w : World} (h : Q (.exit m) a w) : Exit.then K Q (.exit m) a w := h
theorem x_then_norm {K : Act → World → Prop} {Q : Exit → Act → World → Prop} {a : Act} {w : World} (h : K a w) : Exit.then K Q .normal a w := h
theorem x_in_here {id : Nat} {Q : Exit → Act → World → Prop} {a : Act} {w : World} (h : Q .normal a w) : Exit.inBlock id Q (.exit id) a w := by simpa [Exit.inBlock] using h
theorem x_in_pass {id m : Nat} {Q : Exit → Act → World → Prop} {a : Act} {w : World} (hne : m ≠ id) (h : Q (.exit m) a w) : Exit.inBlock id Q (.exit m) a w := by simpa [Exit.inBlock, hne] using h
theorem x_in_norm {id : Nat} {Q : Exit → Act → World → Prop} {a : Act} {w : World} (h : Q .normal a w) : Exit.inBlock id Q .normal a w := h
theorem code_name {P : Program} {Q : Exit → Act → World → Prop} {a : Act} {w : World} {c : Code} (h : ∀ x, x = w → c.wp P Q a x) : c.wp P Q a w := h w rfl

end Go.Proofs.Ytkhdeoihjnpnaaa
