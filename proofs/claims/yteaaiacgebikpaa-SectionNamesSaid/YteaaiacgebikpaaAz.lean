/- append of a row of zeros that make gives, onto bytes without room for it. A law over any program; its conditions are those that it states. -/
import Derived.Test.YteaaiacgebikpaaNm
import Derived.Lib.AppendZerosOnto
namespace Go.Proofs.Yteaaiacgebikpaa
open Go.RowKit
set_option linter.unusedVariables false

theorem zeroCells_one (z : Value) (k : Nat) : Builtin.zeroCells #[z] k = Array.replicate k z := by
  apply Array.ext
  · simp [Builtin.zeroCells]
  · intro i h1 h2
    simp [Builtin.zeroCells, Nat.mod_one]
theorem wpList_app_z8 {ops : Array Oper} {rest : List Oper} {o : Oper} {a : Act} {Q : Exit → Act → World → Prop} (w : World) (hgd : o.guard = none) (s x : Operand) (t tn : TypeId)
    (ho : o.op = .call { callee := .builtin .append, args := #[s, x], argTypes := #[t, tn] }) {e : TypeId} (hsl : IsSl Try.prog t e (.int .u8 0) 1 1) {kn kq : IntKind} (htn : Try.prog.underlying tn = some (.int kn))
    (ad : Addr) (n c k : Nat) (l : List UInt8) (hs : a.eval s = .slice (some ad) n c) (hx : a.eval x = .int kq (k : Int)) (hr : Rb w (some ad) n l) (h0 : 0 < k) (hc : c < n + k) (hnk : n + k ≤ 1000000)
    (hcap : Builtin.nextslicecap (n + k) c ≤ 281474976710656)
    (h : ∀ A' c' w', Rb w' A' (n + k) (l ++ List.replicate k 0) → Below w.heap.size w w' → n + k ≤ c' ∧ c' ≤ maxLen → wpList Try.prog ops Q rest (a.put o.dst (.slice A' (n + k) c')) w') : wpList Try.prog ops Q (o :: rest) a w := by
  obtain ⟨i0, hi0, hz0, hz1, hz2⟩ := info_parts hsl.hi
  have hl := hr.len8
  have hcell : ∀ j v, (l.map b8)[j]? = some v → w.drew.cell? (ad.add j) = some v := by
    intro j v hv
    have hj : j < n := by
      have h1 := (List.getElem?_eq_some_iff.1 hv).1
      rw [List.length_map] at h1
      omega
    obtain ⟨ad', h1, h2, h3⟩ := hr.2 (by omega)
    injection h1 with h1
    subst h1
    exact h3 j v hv
  have hold : (Builtin.firstCells i0.size n (.slice (some ad) n c)).run Try.prog w.drew = .ok (l.map b8).toArray w.drew :=
    run_firstCells_some (w := w.drew) i0.size n ad n c (l.map b8) (by rw [List.length_map, hz1]; omega) hcell
  have hrun := Lib.run_append_grow_zeros (P := Try.prog) w t tn o.type e i0 (.int .u8 0) kq kn hsl.ht htn hi0 hz0 (some ad) n c (l.map b8) hold k h0 (by rw [hz1]; omega) hc (by omega) (by rw [hz2]; omega) (by rw [hz2]; omega)
  refine Lib.wpList_append_run w hgd s x t tn ho _ _ hs hx _ _ hrun ?_
  have hge := grownCap_ge w (n + k) c e
  have hle := grownCap_le_maxLen w (n + k) c e (by unfold maxLen; omega)
  refine h _ _ _ ?_ ?_ ⟨hge, hle⟩
  · have hb := Blk.new w.drew e ((l.map b8).toArray ++ Builtin.zeroCells (Value.int .u8 0).cells k ++ Builtin.zeroCells (Value.int .u8 0).cells (grownCap w (n + k) c e - (n + k)))
    refine ⟨by simp; omega, fun _ => ⟨_, rfl, hb.lt, fun j u hu => ?_⟩⟩
    have hadd : (⟨w.heap.size, 0, none⟩ : Addr).add j = ⟨w.heap.size, j, none⟩ := by unfold Addr.add; split <;> simp_all
    rw [hadd]
    refine (hb.cell j).trans ?_
    have hj : j < n + k := by
      have h1 := (List.getElem?_eq_some_iff.1 hu).1
      simp at h1
      omega
    rw [show (Value.int .u8 0).cells = #[Value.int .u8 0] from rfl, zeroCells_one, zeroCells_one]
    rw [Array.getElem?_append_left (by simp; omega)]
    rw [List.map_append, List.map_replicate] at hu
    rw [← hu, ← Array.getElem?_toList]
    congr 1
    simp
    exact .inr rfl
  · exact (Below.refl w.heap.size w).drew.alloc (Nat.le_refl _) _
end Go.Proofs.Yteaaiacgebikpaa
