/- Operations inside a region that draws its order. Laws over any program; no conditions beyond those that each one states. -/
import Derived.Test.YtldaijkcmnnjpaaTb2
namespace Go.Proofs.Ytldaijkcmnnjpaa
open Go.RowKit
set_option linter.unusedVariables false

theorem wp_row1 {P : Program} {o : Oper} {a : Act} {w : World} {K : Act → World → Prop} {Q : Exit → Act → World → Prop} {t e : TypeId} {z : Value} {bytes : Nat} (hsl : IsSl P t e z 1 bytes) (n : Nat) (parts : Array (Nat × Operand)) (ho : o.op = .buildSlice t n parts)
    (vs : List Value) (hv : (parts.map fun (i, x) => (i, a.eval x)).toList = (vs.zipIdx 0).map fun x => (x.2, x.1)) (h1 : ∀ v ∈ vs, v.cells = #[v]) (hn : vs.length = n) (hp : 0 < n) (hs : n ≤ 2 ^ 24)
    (h : K (a.put o.dst (.slice (some ⟨w.heap.size, 0, none⟩) n n)) (w.alloc (.cells vs.toArray e))) : o.wp P a w K Q := by
  refine wp_row hsl n parts ho _ hv vs.toArray (by omega) (by omega) ?_ h
  have hz : (Array.range (n * 1)).map (z.cells[· % z.cells.size]!) = (Array.range (n * 1)).map (z.cells[· % z.cells.size]!) := rfl
  exact Great.fill_flat vs _ h1 (by simp [hn])
theorem ev_const (a : Act) (v : Value) : a.eval (.const v) = v := rfl
/-- A slice of structs. -/
theorem wp_rowS {P : Program} {o : Oper} {a : Act} {w : World} {K : Act → World → Prop} {Q : Exit → Act → World → Prop} {t e : TypeId} {z : Value} {sz bytes : Nat} (hsl : IsSl P t e z sz bytes) (n : Nat) (parts : Array (Nat × Operand)) (ho : o.op = .buildSlice t n parts)
    (vs : List Value) (hv : (parts.map fun (i, x) => (i, a.eval x)).toList = (vs.zipIdx 0).map fun x => (x.2, x.1)) (h1 : ∀ v ∈ vs, v.cells.size = sz) (hn : vs.length = n) (hz : 0 < sz) (hp : 0 < n) (hs : n * sz ≤ 2 ^ 24) (cells : Array Value) (hc : (vs.flatMap fun v => v.cells.toList).toArray = cells)
    (h : K (a.put o.dst (.slice (some ⟨w.heap.size, 0, none⟩) n n)) (w.alloc (.cells cells e))) : o.wp P a w K Q := by
  refine wp_row hsl n parts ho _ hv cells (Nat.mul_pos hp hz) hs ?_ h
  rw [← hc]
  exact Great.fill_whole hz vs _ h1 (by simp [hn])
/-- A struct literal. -/
theorem wp_bld {P : Program} {o : Oper} {a : Act} {w : World} {K : Act → World → Prop} {Q : Exit → Act → World → Prop} (t : TypeId) (parts : Array (Nat × Operand)) (ho : o.op = .build t parts) (vals : List (Nat × Value)) (hv : (parts.map fun (i, x) => (i, a.eval x)).toList = vals) (cells : Array Value) (hb : P.built t vals = some cells)
    (h : K (a.put o.dst (.agg cells)) w) : o.wp P a w K Q := by
  subst hv
  refine wp_build t parts ho (by rw [hb]; rfl) ?_
  rw [hb]
  exact h
theorem st_al {x w : World} (hS : Below x.heap.size x w) (o : Obj) : Below x.heap.size x (w.alloc o) ∧ Below w.heap.size w (w.alloc o) := ⟨hS.alloc hS.size o, (Below.refl _ _).alloc (Nat.le_refl _) o⟩
/-- What a move or an assignment does. -/
theorem wp_same {P : Program} {o : Oper} {a : Act} {w : World} {K : Act → World → Prop} {Q : Exit → Act → World → Prop} (x : Operand) (ho : o.op = .assign x ∨ o.op = .move x) (h : K (a.put o.dst (a.eval x)) w) : o.wp P a w K Q := by
  unfold Oper.wp execOp
  rcases ho with ho | ho <;> · simp only [ho]; exact h
theorem run_ld {P : Program} {o : Oper} {a : Act} {w : World} (ty : TypeId) (x : Operand) (ho : o.op = .load ty x) (g : Nat) (hx : a.eval x = .pointer (some ⟨g, 0, none⟩)) {t : TypeId} {cs : Array Value} {d : TypeDesc} (hg : Blk w g t cs)
    (hu : P.underlying ty = some d) (hd : (match d with | .struct _ | .array _ _ => true | _ => false) = true) (hi : (P.info? ty).map (·.size) = some cs.size) : (execOp a.eval o).run P w = .ok (.value (.agg cs)) w := by
  unfold execOp
  simp only [ho, hx, Instr.loadAt, Instr.sureAddr, Sem.run_bind, Sem.run_pure, Result.andThen_ok, run_loadVar_row w g t ty cs (0, 0) d hg hu hd hi]
end Go.Proofs.Ytldaijkcmnnjpaa
