/- A row of zeros that make gives; facts of a written-out block. Laws over any program; no conditions beyond those that each one states. -/
import Derived.Test.YtldaijkcmnnjpaaChecked
import Derived.Test.YtldaijkcmnnjpaaRet3
import Derived.OwnWalk
namespace Go.Proofs.Ytldaijkcmnnjpaa
open Go.RowKit
set_option linter.unusedVariables false

theorem wpList_mk1 {ops : Array Oper} {rest : List Oper} {o : Oper} {a : Act} {Q : Exit → Act → World → Prop} (w : World) (hg : o.guard = none) (l c : Operand) {t e : TypeId} {z : Value} {bytes : Nat} (hop : o.op = Op.makeSlice t l c)
    (hsl : IsSl Try.prog t e z 1 bytes) (hzc : z.cells = #[z]) (n : Nat) {kl kc : IntKind} {L C : Int} (hl : a.eval l = .int kl L) (hc : a.eval c = .int kc C) (hL : L = (n : Int)) (hC : C = (n : Int)) (hn : n * bytes ≤ 140737488355328)
    (hK : ∀ w', w'.ownsRow w.heap.size e 1 (.slice (some ⟨w.heap.size, 0, none⟩) n n) n (List.replicate n z) → Below w.heap.size w w' → wpList Try.prog ops Q rest (a.put o.dst (.slice (some ⟨w.heap.size, 0, none⟩) n n)) w') : wpList Try.prog ops Q (o :: rest) a w := by
  obtain ⟨i0, hi0, hz0, hz1, hz2⟩ := info_parts hsl.hi
  have h1 : n ≤ n * bytes := Nat.le_mul_of_pos_right _ hsl.hb
  refine wpList_make_full w hg l c t hop w.heap.size e i0 z 1 hsl.ht hi0 hz0 hz1 kl kc L C n hl hc hL hC (by rw [hz2, Nat.mul_comm]; omega) (by unfold maxLen; omega) (Nat.le_refl _) ?_
  intro w' o2 g2
  rw [hzc, Nat.mul_one, toList_madeCells_one] at o2
  exact hK w' o2 ((Below.refl w.heap.size w).grown g2 (Nat.le_refl _) (fun k h => by cases h))
theorem rep_b8 (n : Nat) : List.replicate n (Value.int .u8 0) = (List.replicate n (0 : UInt8)).map b8 := by rw [List.map_replicate]; rfl
end Go.Proofs.Ytldaijkcmnnjpaa
